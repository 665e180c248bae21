/- Copies of a predictor, and whether two are equal. -/
import Derived.Test.YtjioipecaemckaaF
namespace Go.Proofs.Ytjioipecaemckaa
open Go.RowKit

/-- Train, whatever the key. -/
theorem train_any (A : Option Addr) (n c : Nat) (ts : List Trk) (key : Int) (v : Val) (w : World) (hs : Sl w w.heap.size 5 Trk.cells A n ts) (hn : n ≤ 900000) (hg : Good ts) :
    Calls Try.prog 9 #[.agg #[.slice A n c], .int .i64 key, v.value] w (Gives (train ts key v) w) := by
  cases hh : hit ts key
  · exact train_new A n c ts key v w hs hn hg.1 hh
  · exact train_old A n c ts key v w hs hn hg hh

set_option maxHeartbeats 400000 in
theorem keep_any (A : Option Addr) (n c : Nat) (ts : List Trk) (w : World) (hs : Sl w w.heap.size 5 Trk.cells A n ts) (hn : n ≤ 900000) :
    Calls Try.prog 8 #[.agg #[.slice A n c]] w fun e w' => ∃ A' c', e = .returned (.agg #[.slice A' n c']) ∧ Sl w' w'.heap.size 5 Trk.cells A' n ts ∧ Below w.heap.size w w' := by
  obtain ⟨i0, hi, hz0, hz1, hz2⟩ := info_parts CloneTrk.infoE
  obtain ⟨W, hW⟩ : ∃ W, W = (w.alloc (.cells #[.slice A n c] 27)).alloc (.cells #[.slice none 0 0] 27) := ⟨_, rfl⟩
  have hWb : Below w.heap.size w W := by rw [hW]; exact (by repeat (first | (with_reducible exact (Below.refl _ _)) | (with_reducible refine Below.drew ?_) | (with_reducible refine below_drewN ?_ _) | (with_reducible refine Below.setCell ?_ ?_ _; rotate_left; (simp <;> omega)) | (with_reducible refine Below.alloc ?_ ?_ _; rotate_left; (simp <;> omega))))
  have hWz : W.heap.size = w.heap.size + 2 := by rw [hW]; simp
  have hsW := (hs.below hWb).mono (B' := W.heap.size) (by omega)
  have q1 : W.cell? ⟨w.heap.size + 1, 0, none⟩ = some (.slice none 0 0) := (by rw [hW, cell_new _ _ _ _ _ (by simp <;> omega)]; rfl)
  have q2 : W.frozen? ⟨w.heap.size + 1, 0, none⟩ = false := (by rw [hW, frozen_new _ _ _ _ _ (by simp <;> omega)])
  have HQ1 := Lib.hid q1
  have HQ2 := Lib.hid q2
  have HZ := Lib.hid hWz
  have HB := Lib.hid hWb
  have HL := Lib.hid (show (ts.flatMap Trk.cells).length = n * 5 from by rw [flat_len Trk.size, hs.len])
  clear hWz q1 q2 hWb
  subst hW
  go_enter Try.func8, Try.ntmps8
  go_wp2_with (at_builtin; refine wpList_append_any rfl _ _ 25 rfl (w.heap.size + 2) 46 i0 _ 5 40 Try.underlying25 hi hz0 hz1 hz2 rfl (by decide) (.slice none 0 0) 0 [] rfl (World.ownsRow_nil _ _ _ _) A n c (ts.flatMap Trk.cells) rfl hsW.src.1 HL.out hsW.src.2 (one_cells ts) (by unfold maxLen; omega) (by omega) (by simp) ?_; intro A1 c1 w1 hown1 hgr1 _; have d1 := ((gcell hgr1).1 (w.heap.size + 1) 0 (by rw [HZ.out]; omega) (by simp [Value.ownBlock])).trans HQ1.out; have d2 := ((gcell hgr1).2 (w.heap.size + 1) 0 (by rw [HZ.out]; omega) (by simp [Value.ownBlock])).trans HQ2.out)
  have hz := hgr1.size
  rw [HZ.out] at hz
  have hb1 : Below w.heap.size w w1 := HB.out.grown hgr1 (by rw [HZ.out]; omega) (by simp [Value.ownBlock])
  rw [List.nil_append, Nat.zero_add] at hown1
  have hne : (Value.slice A1 n c1).ownBlock ≠ some (w.heap.size + 1) := fun e => by have := hown1.lt _ e; omega
  refine bodyPost_ret (v := .agg #[.slice A1 n c1]) (by simp [results, Try.results8, go_sem, d1]) rfl ⟨A1, c1, rfl, ?_, (by repeat (first | (with_reducible exact hb1) | (with_reducible refine Below.drew ?_) | (with_reducible refine below_drewN ?_ _) | (with_reducible refine Below.setCell ?_ ?_ _; rotate_left; (simp <;> omega)) | (with_reducible refine Below.alloc ?_ ?_ _; rotate_left; (simp <;> omega))))⟩
  exact Sl.of_own Trk.size hs.len (own_setCell hown1 _ hne)
end Go.Proofs.Ytjioipecaemckaa
