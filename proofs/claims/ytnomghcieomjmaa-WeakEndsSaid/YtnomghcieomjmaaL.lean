/- The first state. -/
import Derived.Test.YtnomghcieomjmaaSt
namespace Go.Proofs.Ytnomghcieomjmaa
open Go.RowKit

theorem tr_ones (l : List Tr) : ∀ u ∈ l.flatMap Tr.cells, u.oneCell' = true := by
  intro u hu
  obtain ⟨t, _, ht⟩ := List.mem_flatMap.1 hu
  have := tr_one t
  exact (Array.all_eq_true_iff_forall_mem.1 this) u (by simpa using ht)
theorem wt_ones (l : List Wt) : ∀ u ∈ l.flatMap Wt.cells, u.oneCell' = true := by
  intro u hu
  obtain ⟨t, _, ht⟩ := List.mem_flatMap.1 hu
  simp [Wt.cells] at ht
  rcases ht with rfl | rfl <;> rfl
theorem infoTr : (Try.prog.info? 47).map (fun i => (i.zero, i.size, i.bytes)) = some (some (.agg #[.bool false, .bool false, .bool false, .bool false, .bool false, .bool false, .bool false, .bool false, .int .i64 0, .int .i64 0, .int .i64 0, .int .i64 0, .int .i64 0, .int .i64 0, .int .i64 0, .int .i64 0, .slice none 0 0]), 17, 96) := by kernel_rfl
/-- A call gives a state and an error number. -/
def GivesSt (mem : Nat → Int) (pts : List Pt) (err : Int) (w : World) (e : Ending) (w' : World) : Prop := ∃ A n c ts, e = .returned (.tuple #[stVal mem A n c, .int .i64 err]) ∧ Sts w' w'.heap.size A n ts ∧ Roomy ts ∧ ts.map Tr.pt = pts ∧ Below w.heap.size w w' ∧ n ≤ c ∧ c ≤ 9223372036854775807 ∧ (∀ ad, A = some ad → w.heap.size ≤ ad.block) ∧ (∀ t ∈ ts, ∀ ad, t.A = some ad → w.heap.size ≤ ad.block)
theorem Sl.grown {α : Type} {w w' : World} {B sz n : Nat} {cells : α → List Value} {A : Option Addr} {l : List α} {r : Option Nat} (h : Sl w B sz cells A n l) (hB : B ≤ w.heap.size) (hg : w.grownBy w' r) (hne : 0 < n → ∀ ad, A = some ad → r ≠ some ad.block) : Sl w' B sz cells A n l := by
  refine ⟨h.len, fun h0 => ?_⟩
  obtain ⟨ab, ao, rfl, hlt, hc⟩ := h.at_ h0
  exact ⟨ab, ao, rfl, hlt, fun i x hx j u hu => ((gcell hg).1 ab _ (by omega) (fun e => hne h0 _ rfl e.symm)).trans (hc i x hx j u hu)⟩
def tr0 : Tr := ⟨fun _ => false, fun _ => 0, none, 0, 0, []⟩
def pt0 : Pt := ⟨fun _ => false, fun _ => 0, []⟩
def mem0 : Nat → Int := fun _ => 0

theorem made_tr (n : Nat) : (madeCells (Value.cells (.agg #[.bool false, .bool false, .bool false, .bool false, .bool false, .bool false, .bool false, .bool false, .int .i64 0, .int .i64 0, .int .i64 0, .int .i64 0, .int .i64 0, .int .i64 0, .int .i64 0, .int .i64 0, .slice none 0 0])) (n * 17)).toList = (List.replicate n tr0).flatMap Tr.cells := by
  apply List.ext_getElem?
  intro j
  by_cases hj : j < n * 17
  · have h17 : j % 17 < 17 := Nat.mod_lt _ (by omega)
    have hd : j / 17 < n := Nat.div_lt_of_lt_mul (by omega)
    have hr := flat_get Tr.size (List.replicate n tr0) (j / 17) tr0 (by rw [List.getElem?_replicate, if_pos hd]) (j % 17) (tr0.cells[j % 17]'h17) (List.getElem?_eq_getElem (by exact h17))
    rw [Nat.div_add_mod' j 17] at hr
    rw [hr]
    have hz : ∀ r, (h : r < 17) → ((#[.bool false, .bool false, .bool false, .bool false, .bool false, .bool false, .bool false, .bool false, .int .i64 0, .int .i64 0, .int .i64 0, .int .i64 0, .int .i64 0, .int .i64 0, .int .i64 0, .int .i64 0, .slice none 0 0] : Array Value)[r]!) = tr0.cells[r]'h := fun r h => by
      match r, h with
      | 0, _ => rfl
      | 1, _ => rfl
      | 2, _ => rfl
      | 3, _ => rfl
      | 4, _ => rfl
      | 5, _ => rfl
      | 6, _ => rfl
      | 7, _ => rfl
      | 8, _ => rfl
      | 9, _ => rfl
      | 10, _ => rfl
      | 11, _ => rfl
      | 12, _ => rfl
      | 13, _ => rfl
      | 14, _ => rfl
      | 15, _ => rfl
      | 16, _ => rfl
      | r + 17, h => exact absurd h (by omega)
    simp only [madeCells, Value.cells, Array.toList_map, Array.toList_range, List.getElem?_map, List.getElem?_range hj, Option.map_some]
    exact congrArg some (hz _ h17)
  · rw [List.getElem?_eq_none (by simp [madeCells]; omega), List.getElem?_eq_none (by rw [flat_len Tr.size, List.length_replicate]; omega)]

/-- What New gives. -/
def GivesNew (n : Nat) (w : World) (e : Ending) (w' : World) : Prop := ∃ A c, e = .returned (.tuple #[stVal mem0 A n c, .int .i64 0]) ∧ Sts w' w'.heap.size A n (List.replicate n tr0) ∧ Below w.heap.size w w' ∧ n ≤ c ∧ c ≤ 9223372036854775807 ∧ (∀ ad, A = some ad → w.heap.size ≤ ad.block ∧ ad.block < w'.heap.size)
set_option maxHeartbeats 1000000 in
theorem new_any (A : Option Addr) (n c : Nat) (l : List Th) (w : World) (hs : Ths w w.heap.size A n l) (hn : n ≤ 9000000000000) (hm : ∀ t ∈ l, t.n ≤ 9000000000000) :
    Calls Try.prog 11 #[.slice A n c] w (if validT (l.map Th.s) then GivesNew n w else GivesSt mem0 [] 1 w) := by
  obtain ⟨i0, hi, iz0, iz1, iz2⟩ := info_parts infoTr
  have HS := Lib.hid hs
  have HL := Lib.hid hs.sl.len
  clear hs
  obtain ⟨W0, hW0⟩ : ∃ W0, W0 = w.alloc (.cells #[.int .i64 0, .int .i64 0, .int .i64 0, .int .i64 0, .slice none 0 0] 31) := ⟨_, rfl⟩
  have hb0 : Below w.heap.size w W0 := by rw [hW0]; exact (by repeat (first | (with_reducible exact (Below.refl _ _)) | (with_reducible refine Below.drew ?_) | (with_reducible refine below_drewN ?_ _) | (with_reducible refine Below.setCell ?_ ?_ _; rotate_left; (first | omega | (simp <;> omega))) | (with_reducible refine Below.alloc ?_ ?_ _; rotate_left; (first | omega | (simp <;> omega)))))
  have hz0 : w.heap.size + 1 ≤ W0.heap.size := by rw [hW0]; simp
  have KC := Lib.hid (show StAt W0 w.heap.size mem0 none 0 0 from by rw [hW0]; exact StAt.new w mem0 none 0 0)
  cases hv : validT (l.map Th.s) with
  | false =>
    have HV := Lib.hid hv
    clear hv
    show Calls _ _ _ _ (GivesSt mem0 [] 1 w)
    go_enter Try.func11, Try.ntmps11
    go_upto_region 1 with fail
    rw [← hW0]
    have HW0 := Lib.hid hW0
    clear hW0
    go_wp2_with (first | (go_at_call 20; refine (valid_any A n c l W0 (HS.out.up hb0) hn hm).mono ?_; rintro e W1 ⟨rfl, hb1⟩; rw [HV.out]; have KC1 := Lib.hid (KC.out.below hb1 (by omega))) | (with_reducible refine wpList_store_st rfl (.tmp 2) (.tmp 7) rfl (mem := mem0) (A := none) (n := 0) (c := 0) (by simp [Act.eval]) (by simp [Act.eval, mem0]) KC1.out ?_; intro W2 hst hgr; have HST := Lib.hid hst; have hb2 := below_of_grown hgr (Nat.le_refl _) ; clear hst))
    have hbw1 : Below w.heap.size w W1 := hb0.trans (hb1.mono hb0.size)
    refine bodyPost_ret (results_st rfl rfl HST.out) rfl ?_
    exact ⟨none, 0, 0, [], rfl, ⟨Sl.nil, fun t ht => absurd ht (by simp)⟩, fun t ht => absurd ht (by simp), rfl, hbw1.grown hgr hbw1.size (fun k e => by cases e; exact Nat.le_refl _), by omega, by omega, (fun ad e => by cases e), fun t ht => absurd ht (by simp)⟩
  | true =>
    have HV := Lib.hid hv
    have hn3 : 1 ≤ n ∧ n ≤ 3 := by
      unfold validT at hv
      simp only [Bool.and_eq_true, decide_eq_true_eq, List.length_map, HL.out] at hv
      exact hv.1
    clear hv
    show Calls _ _ _ _ (GivesNew n w)
    go_enter Try.func11, Try.ntmps11
    go_upto_region 1 with fail
    rw [← hW0]
    have HW0 := Lib.hid hW0
    clear hW0
    go_wp2_with (first | (go_at_call 20; refine (valid_any A n c l W0 (HS.out.up hb0) hn hm).mono ?_; rintro e W1 ⟨rfl, hb1⟩; rw [HV.out]; have hbw1 : Below w.heap.size w W1 := hb0.trans (hb1.mono hb0.size); have hz1 := hb1.size) | (at_make; refine wpList_make_full _ rfl _ _ 29 rfl W1.heap.size 47 i0 _ 17 Try.underlying29 hi iz0 iz1 .i64 .i64 n n n rfl rfl rfl rfl (by rw [iz2]; omega) (by unfold maxLen; omega) (Nat.le_refl _) ?_; intro w1 hown1 hgr1; have H1 := Lib.hid hown1; have hb2 := below_of_grown hgr1 (Nat.le_refl _) (by intro k hk; cases hk); clear hown1 hgr1; have KC2 := Lib.hid ((KC.out.below hb1 (by omega)).below hb2 (by omega))) | (with_reducible refine wpList_store_st rfl (.tmp 2) (.tmp 11) rfl (mem := mem0) (A := some ⟨W1.heap.size, 0, none⟩) (n := n) (c := n) (by simp [Act.eval]) (by simp [Act.eval, mem0]) KC2.out ?_; intro W2 hst hgr; have HST := Lib.hid hst; clear hst))
    have hbz : W1.heap.size ≤ w1.heap.size := hb2.size
    have hbw2 : Below w.heap.size w w1 := hbw1.trans (hb2.mono hbw1.size)
    have hrow : (madeCells (Value.cells (.agg #[.bool false, .bool false, .bool false, .bool false, .bool false, .bool false, .bool false, .bool false, .int .i64 0, .int .i64 0, .int .i64 0, .int .i64 0, .int .i64 0, .int .i64 0, .int .i64 0, .int .i64 0, .slice none 0 0])) (n * 17)).toList = (List.replicate n tr0).flatMap Tr.cells := by
      exact made_tr n
    have hown := H1.out
    rw [hrow] at hown
    have hsl : Sl w1 w1.heap.size 17 Tr.cells (some ⟨W1.heap.size, 0, none⟩) n (List.replicate n tr0) := Sl.of_own Tr.size (List.length_replicate ..) hown
    have hS1 : Sts W2 W2.heap.size (some ⟨W1.heap.size, 0, none⟩) n (List.replicate n tr0) := by
      refine ⟨(hsl.grown (Nat.le_refl _) hgr (fun _ ad e h => by injection e with e; subst e; injection h with h; simp only at h; omega)).mono hgr.size, fun t ht => ?_⟩
      rw [List.eq_of_mem_replicate ht]
      exact Sl.nil
    refine bodyPost_ret (results_st rfl rfl HST.out) rfl ?_
    exact ⟨_, n, rfl, hS1, hbw2.grown hgr hbw2.size (fun k e => by cases e; exact Nat.le_refl _), Nat.le_refl _, by omega, fun ad e => by injection e with e; subst e; exact ⟨hbw1.size, by obtain ⟨ab, ao, e2, h2, _⟩ := hS1.sl.at_ (by omega); injection e2 with e2; injection e2 with e3 _; subst e3; exact h2⟩⟩
end Go.Proofs.Ytnomghcieomjmaa
