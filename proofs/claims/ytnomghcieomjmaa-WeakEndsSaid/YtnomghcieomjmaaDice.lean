/- The dice of the made scenes: whatever the seeds, Pick gives a number below its bound and changes nothing but the place. -/
import Derived.Test.YtnomghcieomjmaaKit2
namespace Go.Proofs.Ytnomghcieomjmaa
open Go.RowKit

def byteCells (x : Int) : List Value := [.int .u8 x]
theorem byte_size (x : Int) : (byteCells x).length = 1 := rfl
/-- Dice lie at block d. -/
def Dice (w : World) (d : Nat) : Prop := d < w.heap.size ∧ ∃ S sn sc, ∃ a : Nat, w.cell? ⟨d, 0, none⟩ = some (.slice S sn sc) ∧ w.cell? ⟨d, 1, none⟩ = some (.int .i64 a) ∧ w.frozen? ⟨d, 1, none⟩ = false ∧ a ≤ sn ∧ sn ≤ 200 ∧
  (∀ i, i < sn → ∃ sb so x, S = some ⟨sb, so, none⟩ ∧ sb < d ∧ 0 ≤ x ∧ x ≤ 255 ∧ w.cell? ⟨sb, so + i, none⟩ = some (.int .u8 x))
theorem Dice.below {w w' : World} {d : Nat} (h : Dice w d) (hb : Below w.heap.size w w') : Dice w' d := by
  obtain ⟨hd, S, sn, sc, a, h0, h1, h2, h3, h4, h5⟩ := h
  refine ⟨by have := hb.size; omega, S, sn, sc, a, (belc hb hd).trans h0, (belc hb hd).trans h1, (belf hb hd).trans h2, h3, h4, fun i hi => ?_⟩
  obtain ⟨sb, so, x, e, hlt, h6, h7, h8⟩ := h5 i hi
  exact ⟨sb, so, x, e, hlt, h6, h7, (belc hb (by omega)).trans h8⟩
theorem Dice.set {w : World} {d : Nat} (h : Dice w d) {p : Addr} (hp : d < p.block) (u : Value) : Dice (w.setCell p u) d := by
  obtain ⟨hd, S, sn, sc, a, h0, h1, h2, h3, h4, h5⟩ := h
  have ne : ∀ b o, b ≤ d → (w.setCell p u).cell? ⟨b, o, none⟩ = w.cell? ⟨b, o, none⟩ := fun b o hb => World.cell?_setCell_other w p _ _ (fun e => by rw [e] at hp; have : d < b := hp; omega)
  refine ⟨by simpa using hd, S, sn, sc, a, (ne _ _ (Nat.le_refl _)).trans h0, (ne _ _ (Nat.le_refl _)).trans h1, by rw [World.frozen?_setCell]; exact h2, h3, h4, fun i hi => ?_⟩
  obtain ⟨sb, so, x, e, hlt, h6, h7, h8⟩ := h5 i hi
  exact ⟨sb, so, x, e, hlt, h6, h7, (ne _ _ (by omega)).trans h8⟩
theorem Dice.lt {w : World} {d : Nat} (h : Dice w d) : d < w.heap.size := h.1
/-- What a call does that throws the dice of block d: it keeps everything below the heap's size but that block. -/
structure Thrown (w : World) (d : Nat) (w' : World) : Prop where
  dice : Dice w' d
  grown : w.grownBy w' (some d)
theorem Thrown.cell {w w' : World} {d : Nat} (h : Thrown w d w') {b o : Nat} (hb : b < w.heap.size) (hne : b ≠ d) : w'.cell? ⟨b, o, none⟩ = w.cell? ⟨b, o, none⟩ := (gcell h.grown).1 b o hb (fun e => hne (by injection e))
theorem Thrown.frozen {w w' : World} {d : Nat} (h : Thrown w d w') {b o : Nat} (hb : b < w.heap.size) (hne : b ≠ d) : w'.frozen? ⟨b, o, none⟩ = w.frozen? ⟨b, o, none⟩ := (gcell h.grown).2 b o hb (fun e => hne (by injection e))
theorem Thrown.size {w w' : World} {d : Nat} (h : Thrown w d w') : w.heap.size ≤ w'.heap.size := h.grown.size
theorem Thrown.below {w w' : World} {d B : Nat} (h : Thrown w d w') (h1 : B ≤ d) (h2 : B ≤ w.heap.size) : Below B w w' := (Below.refl B w).grown h.grown h2 (fun k hk => by injection hk with hk; omega)
theorem Thrown.trans {w w' w'' : World} {d : Nat} (h : Thrown w d w') (h' : Thrown w' d w'') : Thrown w d w'' := ⟨h'.dice, h.grown.trans h'.grown⟩
theorem Thrown.of_below {w w' : World} {d : Nat} (h : Dice w d) (hb : Below w.heap.size w w') : Thrown w d w' := ⟨h.below hb, grown_of_below hb _⟩
theorem Sl.thrown {α : Type} {w w' : World} {d sz n : Nat} {cells : α → List Value} {A : Option Addr} {l : List α} (h : Sl w w.heap.size sz cells A n l) (ht : Thrown w d w') (hA : 0 < n → ∀ ad, A = some ad → ad.block ≠ d) : Sl w' w'.heap.size sz cells A n l := by
  refine ⟨h.len, fun hn => ?_⟩
  obtain ⟨ab, ao, e, hlt, hc⟩ := h.at_ hn
  exact ⟨ab, ao, e, by have := ht.size; omega, fun i x hx j u hu => (ht.cell hlt (hA hn _ e)).trans (hc i x hx j u hu)⟩

theorem thrown_at {w : World} {d sn sc a : Nat} {S : Option Addr} (hd : d < w.heap.size) (h0 : w.cell? ⟨d, 0, none⟩ = some (.slice S sn sc)) (h1 : w.cell? ⟨d, 1, none⟩ = some (.int .i64 a)) (h2 : w.frozen? ⟨d, 1, none⟩ = false) (h3 : a < sn) (h4 : sn ≤ 200)
    (h5 : ∀ i, i < sn → ∃ sb so x, S = some ⟨sb, so, none⟩ ∧ sb < d ∧ 0 ≤ x ∧ x ≤ 255 ∧ w.cell? ⟨sb, so + i, none⟩ = some (.int .u8 x)) (i j : Nat) :
    Thrown w d (((w.drewN i).setCell ⟨d, 1, none⟩ (.int .i64 (a + 1))).drewN j) := by
  have hc : ∀ q, (((w.drewN i).setCell ⟨d, 1, none⟩ (.int .i64 (a + 1))).drewN j).cell? q = (w.setCell ⟨d, 1, none⟩ (.int .i64 (a + 1))).cell? q := fun q => rfl
  have hz : (((w.drewN i).setCell ⟨d, 1, none⟩ (.int .i64 (a + 1))).drewN j).heap.size = w.heap.size := by show (w.setCell _ _).heap.size = _; simp
  refine ⟨⟨by rw [hz]; exact hd, S, sn, sc, a + 1, ?_, ?_, ?_, h3, h4, fun k hk => ?_⟩, ?_⟩
  · rw [hc, set_other _ _ _ _ (by intro e; injection e with e1 e2; omega)]; exact h0
  · rw [hc, World.cell?_setCell_same _ _ _ h1]; rfl
  · show (w.setCell _ _).frozen? _ = false; rw [World.frozen?_setCell]; exact h2
  · obtain ⟨sb, so, x, e, h6, h7, h8, h9⟩ := h5 k hk
    refine ⟨sb, so, x, e, h6, h7, h8, ?_⟩
    rw [hc, set_other _ _ _ _ (by intro e; injection e with e1 e2; omega)]
    exact h9
  · exact ⟨rfl, rfl, rfl, by rw [hz]; exact Nat.le_refl _, fun k hk hkr => Below.heap_setCell w ⟨d, 1, none⟩ _ k (fun e => hkr (by rw [e]))⟩

/-- A slice of records that lives above the dice. -/
structure Lv {α : Type} (w : World) (d sz : Nat) (cells : α → List Value) (A : Option Addr) (n : Nat) (l : List α) : Prop where
  sl : Sl w w.heap.size sz cells A n l
  hi : 0 < n → ∀ ad, A = some ad → ad.block ≠ d
theorem Lv.below {α : Type} {w w' : World} {d sz n : Nat} {cells : α → List Value} {A : Option Addr} {l : List α} (h : Lv w d sz cells A n l) (hb : Below w.heap.size w w') : Lv w' d sz cells A n l := ⟨h.sl.up hb, h.hi⟩
theorem Lv.thrown {α : Type} {w w' : World} {d sz n : Nat} {cells : α → List Value} {A : Option Addr} {l : List α} (h : Lv w d sz cells A n l) (ht : Thrown w d w') : Lv w' d sz cells A n l := ⟨h.sl.thrown ht h.hi, h.hi⟩
theorem Lv.nil {α : Type} {w : World} {d sz : Nat} {cells : α → List Value} {A : Option Addr} : Lv w d sz cells A 0 [] := ⟨Sl.nil, fun h => absurd h (by decide)⟩
theorem Lv.mk' {α : Type} {w0 w : World} {d sz n : Nat} {cells : α → List Value} {A : Option Addr} {l : List α} (h : Sl w w.heap.size sz cells A n l) (hD : Dice w0 d) (hl : 0 < n → ∀ ad, A = some ad → w0.heap.size ≤ ad.block) : Lv w d sz cells A n l := ⟨h, fun hn ad ha => by have := hl hn ad ha; have := hD.lt; omega⟩

set_option maxHeartbeats 400000 in
theorem pick_any (d n : Nat) (w : World) (hD : Dice w d) (h1 : 1 ≤ n) (hn : n ≤ 1000000) :
    Calls Try.prog 16 #[.pointer (some ⟨d, 0, none⟩), .int .i64 n] w fun e w' => ∃ r : Nat, r < n ∧ e = .returned (.int .i64 r) ∧ Thrown w d w' ∧ w'.heap.size = w.heap.size := by
  have HD := Lib.hid hD
  obtain ⟨hd, S, sn, sc, a, c0, c1, f1, ha, hsn, hs⟩ := hD
  by_cases hlt : a < sn
  · obtain ⟨sb, so, x, rfl, hsb, hx0, hx1, hx⟩ := hs a hlt
    have hne : ¬ sb = d := by omega
    have HS := Lib.hid hs
    clear hs
    go_enter Try.func16, Try.ntmps16
    go_wp2
    go_quiet (fail)
    go_wp2
    go_quiet (fail)
    go_wp2
    go_ret
    obtain ⟨r, hr⟩ : ∃ r : Nat, x % n = r := ⟨(x % n).toNat, by have := Int.emod_nonneg x (show (n : Int) ≠ 0 by omega); omega⟩
    refine ⟨r, by have := Int.emod_lt_of_pos x (show (0 : Int) < n by omega); omega, by rw [hr]; rfl, thrown_at hd c0 c1 f1 hlt hsn HS.out _ _, ?_⟩
    show (w.setCell _ _).heap.size = _
    simp
  · go_enter Try.func16, Try.ntmps16
    go_wp2
    go_quiet (fail)
    go_wp2
    go_ret
    exact ⟨0, h1, rfl, .of_below HD.out (by repeat (first | (with_reducible exact (Below.refl _ _)) | (with_reducible refine Below.drew ?_) | (with_reducible refine below_drewN ?_ _) | (with_reducible refine Below.setCell ?_ ?_ _; rotate_left; (first | omega | (simp <;> omega))) | (with_reducible refine Below.alloc ?_ ?_ _; rotate_left; (first | omega | (simp <;> omega))))), rfl⟩

theorem tmod_facts (v : Int) (n : Nat) (h : 1 ≤ n) : (v.tmod n < 0 → v.tmod n + n = v % n) ∧ (¬ v.tmod n < 0 → v.tmod n = v % n) := by
  have hp : (0 : Int) < n := by omega
  have h1 := Int.tmod_lt_of_pos v hp
  have h2 := Int.lt_tmod_of_pos v hp
  have hd := Int.tmod_def v n
  have he : v % n = (v.tmod n) % n := by
    have h3 : v = v.tmod n + n * v.tdiv n := by omega
    conv => lhs; rw [h3]
    rw [Int.add_mul_emod_self_left]
  refine ⟨fun h0 => ?_, fun h0 => ?_⟩
  · rw [he, ← Int.add_emod_right, Int.emod_eq_of_lt (by omega) (by omega)]
  · rw [he, Int.emod_eq_of_lt (by omega) (by omega)]
/-- Mod, with a divisor above 0. -/
theorem mod_any (v : Int) (n : Nat) (w : World) (h0 : 1 ≤ n) (h1 : n ≤ 1000000) (hv : -9223372036854775808 ≤ v ∧ v ≤ 9223372036854775807) :
    Calls Try.prog 14 #[.int .i64 v, .int .i64 n] w fun e w' => ∃ r : Nat, r < n ∧ (r : Int) = v % n ∧ e = .returned (.int .i64 r) ∧ Below w.heap.size w w' := by
  have hp : (0 : Int) < n := by omega
  obtain ⟨r, hr⟩ : ∃ r : Nat, v % n = r := ⟨(v % n).toNat, by have := Int.emod_nonneg v (show (n : Int) ≠ 0 by omega); omega⟩
  have e1 := Int.emod_lt_of_pos v hp
  obtain ⟨t1, t2⟩ := tmod_facts v n h0
  have HT1 := Lib.hid t1
  have HT2 := Lib.hid t2
  have HV := Lib.hid hv
  have HR := Lib.hid hr
  have b1 := Int.tmod_lt_of_pos v hp
  have b2 := Int.lt_tmod_of_pos v hp
  have hrn : r < n := by omega
  clear t1 t2 hv e1 hr
  by_cases hn : v.tmod n < 0
  · go_enter Try.func14, Try.ntmps14
    go_wp2
    go_ret
    exact ⟨r, hrn, HR.out.symm, by rw [← HR.out, ← HT1.out hn]; rfl, Below.refl _ _⟩
  · go_enter Try.func14, Try.ntmps14
    go_wp2
    go_ret
    exact ⟨r, hrn, HR.out.symm, by rw [← HR.out, ← HT2.out hn]; rfl, Below.refl _ _⟩
theorem range_any (d : Nat) (lo hi : Nat) (w : World) (hD : Dice w d) (h1 : lo ≤ hi) (hn : hi ≤ 100000) :
    Calls Try.prog 30 #[.pointer (some ⟨d, 0, none⟩), .int .i64 lo, .int .i64 hi] w fun e w' => ∃ r : Nat, lo ≤ r ∧ r ≤ hi ∧ e = .returned (.int .i64 r) ∧ Thrown w d w' ∧ w'.heap.size = w.heap.size := by
  obtain ⟨m, rfl⟩ : ∃ m, hi = lo + m := ⟨hi - lo, by omega⟩
  go_enter Try.func30, Try.ntmps30
  go_wp2_with fail
  rw [show (lo : Int) + m - lo + 1 = ((m + 1 : Nat) : Int) from by omega]
  refine (pick_any d (m + 1) w hD (by omega) (by omega)).mono ?_
  rintro e w1 ⟨r, hr, rfl, ht, hz⟩
  go_wp2
  go_ret
  exact ⟨lo + r, by omega, by omega, by simp, ht, hz⟩
theorem new_dice (A : Option Addr) (n c : Nat) (l : List Int) (w : World) (hs : Sl w w.heap.size 1 byteCells A n l) (hl : ∀ (i : Nat) (x : Int), l[i]? = some x → 0 ≤ x ∧ x ≤ 255) (hnc : n ≤ c) (hn : n ≤ 9223372036854775807) (hc : c ≤ 9223372036854775807) :
    Calls Try.prog 9 #[.slice A n c] w fun e w' => ∃ d, e = .returned (.pointer (some ⟨d, 0, none⟩)) ∧ Dice w' d ∧ w.heap.size ≤ d ∧ Below w.heap.size w w' := by
  have HL := Lib.hid hl
  have HS := Lib.hid hs
  clear hl hs
  have hseed : ∀ (m : Nat) (o : Obj), m ≤ n → ∀ i, i < m → ∃ sb so x, A = some ⟨sb, so, none⟩ ∧ sb < w.heap.size ∧ 0 ≤ x ∧ x ≤ 255 ∧ (w.alloc o).cell? ⟨sb, so + i, none⟩ = some (.int .u8 x) := fun m o hm i hi => by
    obtain ⟨ab, ao, rfl, hlt, hat⟩ := HS.out.at_ (by omega)
    obtain ⟨x, hx⟩ : ∃ x, l[i]? = some x := ⟨_, List.getElem?_eq_getElem (by rw [HS.out.len]; omega)⟩
    have h := hat i x hx 0 _ rfl
    simp only [Nat.mul_one, Nat.add_zero] at h
    exact ⟨ab, ao, x, rfl, hlt, (HL.out i x hx).1, (HL.out i x hx).2, (cell_old _ _ _ _ hlt).trans h⟩
  have HSE := Lib.hid hseed
  clear hseed
  by_cases h200 : 200 < n
  · go_enter Try.func9, Try.ntmps9
    go_wp2_with go_in
    go_ret
    refine ⟨w.heap.size, rfl, ⟨by simp, A, 200, c, 0, by simp, by simp, by simp, by omega, by omega, HSE.out 200 _ (by omega)⟩, Nat.le_refl _, (by repeat (first | (with_reducible exact (Below.refl _ _)) | (with_reducible refine Below.drew ?_) | (with_reducible refine below_drewN ?_ _) | (with_reducible refine Below.setCell ?_ ?_ _; rotate_left; (first | omega | (simp <;> omega))) | (with_reducible refine Below.alloc ?_ ?_ _; rotate_left; (first | omega | (simp <;> omega)))))⟩
  · go_enter Try.func9, Try.ntmps9
    go_wp2_with go_in
    go_ret
    refine ⟨w.heap.size, rfl, ⟨by simp, A, n, c, 0, by simp, by simp, by simp, by omega, by omega, HSE.out n _ (by omega)⟩, Nat.le_refl _, (by repeat (first | (with_reducible exact (Below.refl _ _)) | (with_reducible refine Below.drew ?_) | (with_reducible refine below_drewN ?_ _) | (with_reducible refine Below.setCell ?_ ?_ _; rotate_left; (first | omega | (simp <;> omega))) | (with_reducible refine Below.alloc ?_ ?_ _; rotate_left; (first | omega | (simp <;> omega)))))⟩
end Go.Proofs.Ytnomghcieomjmaa
