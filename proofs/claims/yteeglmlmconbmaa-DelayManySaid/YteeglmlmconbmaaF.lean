/- Whether two tables of pairs are equal. -/
import Derived.Test.YteeglmlmconbmaaC
namespace Go.Proofs.Yteeglmlmconbmaa
open Go.RowKit
set_option maxHeartbeats 400000 in
theorem same_any (A : Option Addr) (n c : Nat) (A' : Option Addr) (c' : Nat) (ts : List Pr) (w : World) (hs : Sl w w.heap.size 3 Pr.cells A n ts) (hs' : Sl w w.heap.size 3 Pr.cells A' n ts) (hn : n ≤ 1000000) :
    Calls Try.prog 6 #[.agg #[.slice A n c], .agg #[.slice A' n c']] w fun e w' => e = .returned (.bool true) ∧ Below w.heap.size w w' := by
  have HN := Lib.hid hs.len
  obtain ⟨W, hW⟩ : ∃ W, W = (w.alloc (.cells #[.slice A n c] 25)).alloc (.cells #[.slice A' n c'] 25) := ⟨_, rfl⟩
  have hWb : Below w.heap.size w W := by rw [hW]; exact (by repeat (first | (with_reducible exact (Below.refl _ _)) | (with_reducible refine Below.drew ?_) | (with_reducible refine below_drewN ?_ _) | (with_reducible refine Below.setCell ?_ ?_ _; rotate_left; (first | omega | (simp <;> omega))) | (with_reducible refine Below.alloc ?_ ?_ _; rotate_left; (first | omega | (simp <;> omega)))))
  have hWz : W.heap.size = w.heap.size + 2 := by rw [hW]; simp
  have q0 : W.cell? ⟨w.heap.size, 0, none⟩ = some (.slice A n c) := (by rw [hW, cell_old _ _ _ _ (by simp <;> omega), cell_new _ _ _ _ _ (by simp <;> omega)]; rfl)
  have q1 : W.cell? ⟨w.heap.size + 1, 0, none⟩ = some (.slice A' n c') := (by rw [hW, cell_new _ _ _ _ _ (by simp <;> omega)]; rfl)
  have HQ0 := Lib.hid q0
  have HQ1 := Lib.hid q1
  have HZ := Lib.hid hWz
  have HB := Lib.hid hWb
  clear hWz q0 q1 hWb
  go_enter Try.func6, Try.ntmps6
  go_wp2_with fail
  rw [← hW]
  have HW := Lib.hid hW
  clear hW
  go_loopw [5] (fun i wr => ∃ k : Nat, k ≤ n ∧ i = .int .i64 k ∧ Below W.heap.size W wr) (fun i _ => n - (intOf i).toNat)
  case atStart => exact ⟨0, Nat.zero_le _, rfl, Below.refl _ _⟩
  case round =>
    obtain ⟨k, hk, rfl, hb⟩ := hrel
    have r0 := (hb.cell (p := ⟨w.heap.size, 0, none⟩) (by simp [HZ.out])).trans HQ0.out
    have r1 := (hb.cell (p := ⟨w.heap.size + 1, 0, none⟩) (by simp [HZ.out])).trans HQ1.out
    have hbw : Below w.heap.size w wr := HB.out.trans (hb.mono (by rw [HZ.out]; omega))
    by_cases hlt : k < n
    · obtain ⟨ab, ao, rfl, hlo, hat⟩ := hs.at_ (by omega)
      obtain ⟨bb, bo, rfl, hlo', hat'⟩ := hs'.at_ (by omega)
      obtain ⟨t, ht⟩ : ∃ t, ts[k]? = some t := ⟨_, List.getElem?_eq_getElem (by rw [HN.out]; exact hlt)⟩
      have c0 : wr.cell? ⟨ab, ao + k * 3, none⟩ = some (.int .i64 t.a) := (hbw.cell (p := ⟨ab, _, none⟩) hlo).trans (hat k t ht 0 _ rfl)
      have c1 : wr.cell? ⟨ab, ao + k * 3 + 1, none⟩ = some (.int .i64 t.b) := (hbw.cell (p := ⟨ab, _, none⟩) hlo).trans (hat k t ht 1 _ rfl)
      have c2 : wr.cell? ⟨ab, ao + k * 3 + 2, none⟩ = some (.int .i64 t.cnt) := (hbw.cell (p := ⟨ab, _, none⟩) hlo).trans (hat k t ht 2 _ rfl)
      have d0 : wr.cell? ⟨bb, bo + k * 3, none⟩ = some (.int .i64 t.a) := (hbw.cell (p := ⟨bb, _, none⟩) hlo').trans (hat' k t ht 0 _ rfl)
      have d1 : wr.cell? ⟨bb, bo + k * 3 + 1, none⟩ = some (.int .i64 t.b) := (hbw.cell (p := ⟨bb, _, none⟩) hlo').trans (hat' k t ht 1 _ rfl)
      have d2 : wr.cell? ⟨bb, bo + k * 3 + 2, none⟩ = some (.int .i64 t.cnt) := (hbw.cell (p := ⟨bb, _, none⟩) hlo').trans (hat' k t ht 2 _ rfl)
      clear hat hat' ht
      go_wp2
      go_quiet (fail)
      go_wp2
      go_roundw
      case rel => exact ⟨k + 1, by omega, by go_num, below_drewN hb _⟩
      case measure => simp [intOf]; omega
    · go_wp2
      go_ret
      exact ⟨rfl, hbw⟩
end Go.Proofs.Yteeglmlmconbmaa
