/- Binary search, find, Last, Stride and their references. -/
import Derived.Test.YtjioipecaemckaaA
namespace Go.Proofs.Ytjioipecaemckaa
open Go.RowKit

set_option maxHeartbeats 400000 in
theorem less_any (i n c : Nat) (z : Int) (hz : z = i) (ab ao : Nat) (t : Trk) (key : Int) (p q : Nat) (w : World) (hi : i < n) (_hn : n ≤ 1000000)
   (hp : w.cell? ⟨p, 0, none⟩ = some (.slice (some ⟨ab, ao, none⟩) n c)) (hq : w.cell? ⟨q, 0, none⟩ = some (.int .i64 key))
   (hk : w.cell? ⟨ab, ao + i * 5, none⟩ = some (.int .i64 t.key)) :
    Calls Try.prog 24 #[.int .i64 z, .pointer (some ⟨p, 0, none⟩), .pointer (some ⟨q, 0, none⟩)] w fun e w' => e = .returned (.bool (decide (key ≤ t.key))) ∧ Below w.heap.size w w' := by
  subst hz
  go_enter Try.func24, Try.ntmps24
  go_wp2_with fail
  go_quiet (fail)
  go_wp2
  go_ret
  exact ⟨rfl, below_drewN (Below.refl _ _) _⟩

/-- Binary search: what the loop knows. -/
def Mid (ts : List Trk) (key : Int) (i j : Nat) : Prop := i ≤ j ∧ j ≤ ts.length ∧ (∀ (x : Nat) (u : Trk), x < i → ts[x]? = some u → u.key < key) ∧ (∀ (x : Nat) (u : Trk), j ≤ x → ts[x]? = some u → key ≤ u.key)

set_option maxHeartbeats 400000 in
theorem search_any (n c : Nat) (A : Option Addr) (ts : List Trk) (key : Int) (p q : Nat) (w : World) (hs : Sl w w.heap.size 5 Trk.cells A n ts) (hn : n ≤ 1000000) (hsort : Sorted ts)
   (hpb : p < w.heap.size) (hqb : q < w.heap.size)
   (hp : w.cell? ⟨p, 0, none⟩ = some (.slice A n c)) (hq : w.cell? ⟨q, 0, none⟩ = some (.int .i64 key)) :
    Calls Try.prog 23 #[.int .i64 n, .func (.func 24) #[] #[.pointer (some ⟨p, 0, none⟩), .pointer (some ⟨q, 0, none⟩)]] w fun e w' => e = .returned (.int .i64 (lowb ts key)) ∧ Below w.heap.size w w' := by
  have hl := hs.len
  have HS := Lib.hid hsort
  have HL := Lib.hid hl
  clear hsort hl
  go_enter Try.func23, Try.ntmps23
  go_wp2_with fail
  go_loopw [5, 6] (fun i j wr => ∃ a b : Nat, i = .int .i64 a ∧ j = .int .i64 b ∧ a ≤ b ∧ b ≤ n ∧ Hid (Mid ts key a b) ∧ Below w.heap.size w wr) (fun i j _ => (intOf j - intOf i).toNat)
  case atStart => exact ⟨0, n, rfl, rfl, by omega, by omega, ⟨by omega, by rw [HL.out]; omega, by intros; omega, fun x u hx hu => by rw [List.getElem?_eq_none (by rw [HL.out]; exact hx)] at hu; cases hu⟩, Below.refl _ _⟩
  case round =>
    obtain ⟨a, b, rfl, rfl, hab, hbn, hM, hb⟩ := hrel
    by_cases hlt : a < b
    · obtain ⟨ab, ao, rfl, hlo, hat⟩ := hs.at_ (by omega)
      obtain ⟨t, ht⟩ : ∃ t, ts[(a + b) / 2]? = some t := ⟨_, List.getElem?_eq_getElem (by rw [HL.out]; omega)⟩
      have c0 : wr.cell? ⟨ab, ao + ((a + b) / 2) * 5, none⟩ = some (.int .i64 t.key) := (hb.cell (p := ⟨ab, _, none⟩) hlo).trans (hat _ t ht 0 _ rfl)
      have hp1 := (hb.cell (p := ⟨p, 0, none⟩) hpb).trans hp
      have hq1 := (hb.cell (p := ⟨q, 0, none⟩) hqb).trans hq
      have HT := Lib.hid ht
      have HA := Lib.hid hat
      clear ht hat
      by_cases hge : key ≤ t.key
      · have HD := Lib.hid (show decide (key ≤ t.key) = true from by simpa using hge)
        go_wp2_with fail
        refine (less_any ((a + b) / 2) n c _ (by omega) ab ao t key p q _ (by omega) hn hp1 hq1 c0).mono ?_
        rintro e w' ⟨rfl, hb'⟩
        rw [HD.out]
        go_wp2
        go_roundw
        case rel =>
          refine ⟨a, (a + b) / 2, rfl, by go_num, by omega, by omega, ⟨by omega, by rw [HL.out]; omega, hM.out.2.2.1, fun x u hx hu => ?_⟩, hb.trans (hb'.mono hb.size)⟩
          by_cases hxm : x = (a + b) / 2
          · subst hxm; rw [HT.out] at hu; cases hu; exact hge
          · have := HS.out _ _ t u (show (a + b) / 2 < x by omega) HT.out hu; omega
        case measure => simp [intOf]; omega
      · have HD := Lib.hid (show decide (key ≤ t.key) = false from by simpa using hge)
        go_wp2_with fail
        refine (less_any ((a + b) / 2) n c _ (by omega) ab ao t key p q _ (by omega) hn hp1 hq1 c0).mono ?_
        rintro e w' ⟨rfl, hb'⟩
        rw [HD.out]
        go_wp2
        go_roundw
        case rel =>
          refine ⟨(a + b) / 2 + 1, b, by go_num, rfl, by omega, by omega, ⟨by omega, by rw [HL.out]; omega, fun x u hx hu => ?_, hM.out.2.2.2⟩, hb.trans (hb'.mono hb.size)⟩
          by_cases hxm : x = (a + b) / 2
          · subst hxm; rw [HT.out] at hu; cases hu; omega
          · have := HS.out _ _ u t (show x < (a + b) / 2 by omega) hu HT.out; omega
        case measure => simp [intOf]; omega
    · obtain rfl : a = b := by omega
      go_wp2
      go_ret
      refine ⟨?_, hb⟩
      have E : lowb ts key = a := lowb_of (by rw [HL.out]; omega) hM.out.2.2.1 (fun u hu => hM.out.2.2.2 a u (by omega) hu)
      rw [E]; rfl

set_option maxHeartbeats 400000 in
theorem find_any (A : Option Addr) (n c : Nat) (ts : List Trk) (key : Int) (w : World) (hs : Sl w w.heap.size 5 Trk.cells A n ts) (hn : n ≤ 1000000) (hsort : Sorted ts) :
    Calls Try.prog 20 #[.agg #[.slice A n c], .int .i64 key] w fun e w' => e = .returned (.tuple #[.int .i64 (lowb ts key), .bool (hit ts key)]) ∧ Below w.heap.size w w' := by
  have HS := Lib.hid hsort
  have HN := Lib.hid hs.len
  clear hsort
  go_enter Try.func20, Try.ntmps20
  go_wp2_with fail
  refine (search_any n c A ts key w.heap.size (w.heap.size + 1) _ ((hs.below (((Below.refl _ _).alloc (Nat.le_refl _) _).alloc (by simp) _)).mono (by simp <;> omega)) hn HS.out (by simp <;> omega) (by simp) (by simp [World.cell?_alloc_lt]) (by simp)).mono ?_
  rintro e w' ⟨rfl, hb⟩
  have hb1 : Below w.heap.size w w' := (((Below.refl _ _).alloc (Nat.le_refl _) _).alloc (by simp) _).trans (hb.mono (by simp; omega))
  have hz := hb.size
  simp only [World.size_alloc] at hz
  have hp : w'.cell? ⟨w.heap.size, 0, none⟩ = some (.slice A n c) := (hb.cell (p := ⟨w.heap.size, 0, none⟩) (by simp <;> omega)).trans (by simp [World.cell?_alloc_lt])
  have hq : w'.cell? ⟨w.heap.size + 1, 0, none⟩ = some (.int .i64 key) := (hb.cell (p := ⟨w.heap.size + 1, 0, none⟩) (by simp)).trans (by simp)
  have hle := lowb_le ts key
  rw [hs.len] at hle
  obtain ⟨k, hk⟩ : ∃ k, k = lowb ts key := ⟨_, rfl⟩
  have HK := Lib.hid hk
  rw [← hk] at hle
  rw [← hk]
  clear hk
  by_cases hlt : k < n
  · obtain ⟨ab, ao, rfl, hlo, hat⟩ := hs.at_ (by omega)
    obtain ⟨t, ht⟩ : ∃ t, ts[k]? = some t := ⟨_, List.getElem?_eq_getElem (by rw [HN.out]; omega)⟩
    have c0 : w'.cell? ⟨ab, ao + k * 5, none⟩ = some (.int .i64 t.key) := (hb1.cell (p := ⟨ab, _, none⟩) hlo).trans (hat _ t ht 0 _ rfl)
    have HT := Lib.hid ht
    clear ht hat
    go_wp2
    go_quiet (fail)
    go_wp2
    go_ret2
    exact ⟨ret_found HK.out.symm HT.out, below_drewN hb1 _⟩
  · have hd : decide (k < n) = false := by simpa using hlt
    obtain rfl : k = n := by omega
    go_wp2
    go_quiet (fail)
    go_wp2
    go_ret2
    exact ⟨ret_miss HK.out.symm (by rw [← HK.out, HN.out]; omega), below_drewN hb1 _⟩
end Go.Proofs.Ytjioipecaemckaa
