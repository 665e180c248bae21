/- What find, at and Key come to, for every predictor in memory whose tracks ascend. -/
import Derived.Test.YtjioipecaemckaaKit
import Derived.Test.YtjioipecaemckaaPlain
namespace Go.Proofs.Ytjioipecaemckaa
open Go.RowKit

theorem key_any (s f : Int) (w : World) :
    Calls Try.prog 16 #[.int .i64 s, .int .i64 f] w fun e w' => e = .returned (keyV s f) ∧ Below w.heap.size w w' := by
  by_cases h1 : -1 ≤ s <;> by_cases h2 : s ≤ 2047 <;> by_cases h3 : 0 ≤ f <;> by_cases h4 : f ≤ 255
  all_goals
    have H := Lib.hid (show keyV s f = _ from by simp only [keyV, keyOk, h1, h2, h3, h4, decide_true, decide_false, Bool.and_true, Bool.and_false, if_true, if_false, Bool.false_eq_true]; rfl)
    go_enter Try.func16, Try.ntmps16
    go_wp2
    go_ret2
    exact ⟨congrArg Ending.returned H.out.symm, Below.refl _ _⟩
theorem refkey_any (s f : Int) (w : World) :
    Calls Try.prog 17 #[.int .i64 s, .int .i64 f] w fun e w' => e = .returned (keyV s f) ∧ Below w.heap.size w w' := by
  by_cases h1 : -1 ≤ s <;> by_cases h2 : s ≤ 2047 <;> by_cases h3 : 0 ≤ f <;> by_cases h4 : f ≤ 255
  all_goals
    have H := Lib.hid (show keyV s f = _ from by simp only [keyV, keyOk, h1, h2, h3, h4, decide_true, decide_false, Bool.and_true, Bool.and_false, if_true, if_false, Bool.false_eq_true]; rfl)
    go_enter Try.func17, Try.ntmps17
    go_wp2
    all_goals
      go_ret2
      exact ⟨congrArg Ending.returned H.out.symm, Below.refl _ _⟩

theorem ret_found {ts : List Trk} {key : Int} {k : Nat} {t : Trk} (hL : lowb ts key = k) (ht : ts[k]? = some t) :
    Ending.returned (.tuple #[.int .i64 k, .bool (t.key == key)]) = .returned (.tuple #[.int .i64 (lowb ts key), .bool (hit ts key)]) := by
  rw [hit_at (by rw [hL]; exact ht), hL]
theorem ret_miss {ts : List Trk} {key : Int} {n : Nat} (hL : lowb ts key = n) (hl : ts.length ≤ lowb ts key) :
    Ending.returned (.tuple #[.int .i64 n, .bool false]) = .returned (.tuple #[.int .i64 (lowb ts key), .bool (hit ts key)]) := by
  rw [hit_none hl, hL]

set_option maxHeartbeats 400000 in
theorem at_any (A : Option Addr) (n c : Nat) (ts : List Trk) (key : Int) (w : World) (hs : Sl w w.heap.size 5 Trk.cells A n ts) (hn : n ≤ 1000000) :
    Calls Try.prog 22 #[.agg #[.slice A n c], .int .i64 key] w fun e w' => e = .returned (.tuple #[.int .i64 (lowb ts key), .bool (hit ts key)]) ∧ Below w.heap.size w w' := by
  go_enter Try.func22, Try.ntmps22
  go_wp2_with fail
  go_loopw [11] (fun i wr => ∃ k : Nat, k ≤ n ∧ i = .int .i64 k ∧ (∀ j u, j < k → ts[j]? = some u → u.key < key) ∧ Below w.heap.size w wr ∧ w.heap.size < wr.heap.size ∧ wr.cell? ⟨w.heap.size, 0, none⟩ = some (.slice A n c)) (fun i _ => n - (intOf i).toNat)
  case atStart => exact ⟨0, Nat.zero_le _, rfl, by intros; omega, (Below.refl _ _).alloc (Nat.le_refl _) _, by simp, by simp⟩
  case round =>
    obtain ⟨k, hk, rfl, hall, hb, hz, hcell⟩ := hrel
    by_cases hlt : k < n
    · obtain ⟨ab, ao, rfl, hab, hat⟩ := hs.at_ (by omega)
      have hkl : k < ts.length := by rw [hs.len]; exact hlt
      obtain ⟨t, ht⟩ : ∃ t, ts[k]? = some t := ⟨_, List.getElem?_eq_getElem hkl⟩
      have c0 : wr.cell? ⟨ab, ao + k * 5, none⟩ = some (.int .i64 t.key) := (hb.cell (p := ⟨ab, _, none⟩) hab).trans (hat k t ht 0 _ rfl)
      have c1 : wr.cell? ⟨ab, ao + k * 5 + 1, none⟩ = some (.bool t.last.ref) := (hb.cell (p := ⟨ab, _, none⟩) hab).trans (hat k t ht 1 _ rfl)
      have c2 : wr.cell? ⟨ab, ao + k * 5 + 2, none⟩ = some (.int .i64 t.last.n) := (hb.cell (p := ⟨ab, _, none⟩) hab).trans (hat k t ht 2 _ rfl)
      have c3 : wr.cell? ⟨ab, ao + k * 5 + 3, none⟩ = some (.int .i64 t.stride) := (hb.cell (p := ⟨ab, _, none⟩) hab).trans (hat k t ht 3 _ rfl)
      have c4 : wr.cell? ⟨ab, ao + k * 5 + 4, none⟩ = some (.int .i64 t.seen) := (hb.cell (p := ⟨ab, _, none⟩) hab).trans (hat k t ht 4 _ rfl)
      have HT := Lib.hid ht
      have HA := Lib.hid hall
      have HH := Lib.hid hat
      clear ht hall hat
      by_cases hge : key ≤ t.key
      · go_wp2
        go_quiet (fail)
        go_wp2
        go_ret2
        have hL : lowb ts key = k := lowb_of (by omega) HA.out (fun u hu => by rw [HT.out] at hu; cases hu; exact hge)
        exact ⟨ret_found hL HT.out, below_drewN (hb.alloc (by omega) _) _⟩
      · go_wp2
        go_roundw
        case rel =>
          refine ⟨k + 1, by omega, by go_num, fun j u hj hu => ?_, hb.alloc (by omega) _, by simp; omega, by simp [World.cell?_alloc_lt, hz, hcell]⟩
          by_cases hjk : j = k
          · subst hjk; rw [HT.out] at hu; cases hu; omega
          · exact HA.out j u (by omega) hu
        case measure => simp [intOf]; omega
    · obtain rfl : k = n := by omega
      have HA := Lib.hid hall
      clear hall
      go_wp2
      go_ret2
      have hL : lowb ts key = ts.length := lowb_end (fun j u hj hu => HA.out j u (by rw [← hs.len]; exact hj) hu)
      exact ⟨ret_miss (by rw [hL, hs.len]) (by omega), hb⟩
end Go.Proofs.Ytjioipecaemckaa
