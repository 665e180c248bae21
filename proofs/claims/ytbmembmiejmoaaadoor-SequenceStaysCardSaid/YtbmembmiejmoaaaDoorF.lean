/- Copies of a sequencer, whether two are equal, and guesses. -/
import Derived.Test.YtbmembmiejmoaaaDoorE
namespace Go.Proofs.YtbmembmiejmoaaaDoor
open Go.RowKit
set_option maxHeartbeats 400000 in
theorem same_any (A : Option Addr) (n c : Nat) (A' : Option Addr) (c' : Nat) (ts : List Trk) (w : World) (hs : Sl w w.heap.size 3 Trk.cells A n ts) (hs' : Sl w w.heap.size 3 Trk.cells A' n ts) (hn : n ≤ 1000000) :
    Calls Tryd.prog 9 #[.agg #[.slice A n c], .agg #[.slice A' n c']] w fun e w' => e = .returned (.bool true) ∧ Below w.heap.size w w' := by
  have HN := Lib.hid hs.len
  obtain ⟨W, hW⟩ : ∃ W, W = (w.alloc (.cells #[.slice A n c] 26)).alloc (.cells #[.slice A' n c'] 26) := ⟨_, rfl⟩
  have hWb : Below w.heap.size w W := by rw [hW]; exact (by repeat (first | (with_reducible exact (Below.refl _ _)) | (with_reducible refine Below.drew ?_) | (with_reducible refine below_drewN ?_ _) | (with_reducible refine Below.setCell ?_ ?_ _; rotate_left; (first | omega | (simp <;> omega))) | (with_reducible refine Below.alloc ?_ ?_ _; rotate_left; (first | omega | (simp <;> omega)))))
  have hWz : W.heap.size = w.heap.size + 2 := by rw [hW]; simp
  have q0 : W.cell? ⟨w.heap.size, 0, none⟩ = some (.slice A n c) := (by rw [hW, cell_old _ _ _ _ (by simp <;> omega), cell_new _ _ _ _ _ (by simp <;> omega)]; rfl)
  have q1 : W.cell? ⟨w.heap.size + 1, 0, none⟩ = some (.slice A' n c') := (by rw [hW, cell_new _ _ _ _ _ (by simp <;> omega)]; rfl)
  have HQ0 := Lib.hid q0
  have HQ1 := Lib.hid q1
  have HZ := Lib.hid hWz
  have HB := Lib.hid hWb
  clear hWz q0 q1 hWb
  go_enter Tryd.func9, Tryd.ntmps9
  go_wp2_with fail
  rw [← hW]
  have HW := Lib.hid hW
  clear hW
  go_loopw [16] (fun i wr => ∃ k : Nat, k ≤ n ∧ i = .int .i64 k ∧ Below W.heap.size W wr) (fun i _ => n - (intOf i).toNat)
  case atStart => exact ⟨0, Nat.zero_le _, rfl, Below.refl _ _⟩
  case round =>
    obtain ⟨k, hk, rfl, hb⟩ := hrel
    have r0 := (hb.cell (p := ⟨w.heap.size, 0, none⟩) (by simp [HZ.out])).trans HQ0.out
    have r1 := (hb.cell (p := ⟨w.heap.size + 1, 0, none⟩) (by simp [HZ.out])).trans HQ1.out
    have hbw : Below w.heap.size w wr := HB.out.trans (hb.mono (by rw [HZ.out]; omega))
    by_cases hlt : k < n
    · obtain ⟨ab, ao, rfl, hlo, hat⟩ := hs.at_ (by omega)
      obtain ⟨bb, bo, rfl, hlo', hat'⟩ := hs'.at_ (by omega)
      obtain ⟨t, ht⟩ : ∃ t, ts[k]? = some t := ⟨_, List.getElem?_eq_getElem (by rw [HN.out]; exact hlt)⟩
      have c0 : wr.cell? ⟨ab, ao + k * 3, none⟩ = some (.int .i64 t.key) := (hbw.cell (p := ⟨ab, _, none⟩) hlo).trans (hat k t ht 0 _ rfl)
      have c1 : wr.cell? ⟨ab, ao + k * 3 + 1, none⟩ = some (.int .i64 t.to) := (hbw.cell (p := ⟨ab, _, none⟩) hlo).trans (hat k t ht 1 _ rfl)
      have c2 : wr.cell? ⟨ab, ao + k * 3 + 2, none⟩ = some (.int .i64 t.cnt) := (hbw.cell (p := ⟨ab, _, none⟩) hlo).trans (hat k t ht 2 _ rfl)
      have d0 : wr.cell? ⟨bb, bo + k * 3, none⟩ = some (.int .i64 t.key) := (hbw.cell (p := ⟨bb, _, none⟩) hlo').trans (hat' k t ht 0 _ rfl)
      have d1 : wr.cell? ⟨bb, bo + k * 3 + 1, none⟩ = some (.int .i64 t.to) := (hbw.cell (p := ⟨bb, _, none⟩) hlo').trans (hat' k t ht 1 _ rfl)
      have d2 : wr.cell? ⟨bb, bo + k * 3 + 2, none⟩ = some (.int .i64 t.cnt) := (hbw.cell (p := ⟨bb, _, none⟩) hlo').trans (hat' k t ht 2 _ rfl)
      clear hat hat' ht
      go_wp2
      go_quiet (fail)
      go_wp2
      go_roundw
      case rel => exact ⟨k + 1, by omega, by go_num, below_drewN hb _⟩
      case measure => simp [intOf]; omega
    · go_wp2
      go_ret
      exact ⟨rfl, hbw⟩
set_option maxHeartbeats 400000 in
theorem keep_any (A : Option Addr) (n c : Nat) (ts : List Trk) (w : World) (hs : Sl w w.heap.size 3 Trk.cells A n ts) (hn : n ≤ 900000) :
    Calls Tryd.prog 7 #[.agg #[.slice A n c]] w fun e w' => ∃ A' c', e = .returned (.agg #[.slice A' n c']) ∧ Sl w' w'.heap.size 3 Trk.cells A' n ts ∧ Below w.heap.size w w' := by
  obtain ⟨i0, hi, hz0, hz1, hz2⟩ := info_parts CloneTrk.infoE
  obtain ⟨W, hW⟩ : ∃ W, W = (w.alloc (.cells #[.slice A n c] 26)).alloc (.cells #[.slice none 0 0] 26) := ⟨_, rfl⟩
  have hWb : Below w.heap.size w W := by rw [hW]; exact (by repeat (first | (with_reducible exact (Below.refl _ _)) | (with_reducible refine Below.drew ?_) | (with_reducible refine below_drewN ?_ _) | (with_reducible refine Below.setCell ?_ ?_ _; rotate_left; (first | omega | (simp <;> omega))) | (with_reducible refine Below.alloc ?_ ?_ _; rotate_left; (first | omega | (simp <;> omega)))))
  have hWz : W.heap.size = w.heap.size + 2 := by rw [hW]; simp
  have hsW := (hs.below hWb).mono (B' := W.heap.size) (by omega)
  have q1 : W.cell? ⟨w.heap.size + 1, 0, none⟩ = some (.slice none 0 0) := (by rw [hW, cell_new _ _ _ _ _ (by simp <;> omega)]; rfl)
  have q2 : W.frozen? ⟨w.heap.size + 1, 0, none⟩ = false := (by rw [hW, frozen_new _ _ _ _ _ (by simp <;> omega)])
  have HQ1 := Lib.hid q1
  have HQ2 := Lib.hid q2
  have HZ := Lib.hid hWz
  have HB := Lib.hid hWb
  have HL := Lib.hid (show (ts.flatMap Trk.cells).length = n * 3 from by rw [flat_len Trk.size, hs.len])
  clear hWz q1 q2 hWb
  subst hW
  go_enter Tryd.func7, Tryd.ntmps7
  go_wp2_with (at_builtin; refine wpList_append_any rfl _ _ 24 rfl (w.heap.size + 2) 58 i0 _ 3 24 Tryd.underlying24 hi hz0 hz1 hz2 rfl (by decide) (.slice none 0 0) 0 [] rfl (World.ownsRow_nil _ _ _ _) A n c (ts.flatMap Trk.cells) rfl (hsW.src Trk.size).1 HL.out (hsW.src Trk.size).2 (one_cells ts) (by unfold maxLen; omega) (by omega) (by simp) ?_; intro A1 c1 w1 hown1 hgr1 _; have d1 := ((gcell hgr1).1 (w.heap.size + 1) 0 (by rw [HZ.out]; omega) (by simp [Value.ownBlock])).trans HQ1.out; have d2 := ((gcell hgr1).2 (w.heap.size + 1) 0 (by rw [HZ.out]; omega) (by simp [Value.ownBlock])).trans HQ2.out)
  have hz := hgr1.size
  rw [HZ.out] at hz
  have hb1 : Below w.heap.size w w1 := HB.out.grown hgr1 (by rw [HZ.out]; omega) (by simp [Value.ownBlock])
  rw [List.nil_append, Nat.zero_add] at hown1
  have hne : (Value.slice A1 n c1).ownBlock ≠ some (w.heap.size + 1) := fun e => by have := hown1.lt _ e; omega
  refine bodyPost_ret (v := .agg #[.slice A1 n c1]) (by simp [results, Tryd.results7, go_sem, d1]) rfl ⟨A1, c1, rfl, ?_, (by repeat (first | (with_reducible exact hb1) | (with_reducible refine Below.drew ?_) | (with_reducible refine below_drewN ?_ _) | (with_reducible refine Below.setCell ?_ ?_ _; rotate_left; (first | omega | (simp <;> omega))) | (with_reducible refine Below.alloc ?_ ?_ _; rotate_left; (first | omega | (simp <;> omega)))))⟩
  exact Sl.of_own Trk.size hs.len (own_setCell hown1 _ hne)

set_option maxHeartbeats 400000 in
theorem guess_any (A : Option Addr) (n c : Nat) (ts : List Trk) (key : Int) (w : World) (hs : Sl w w.heap.size 3 Trk.cells A n ts) (hn : n ≤ 1000000) (hsort : Sorted ts) :
    Calls Tryd.prog 11 #[.agg #[.slice A n c], .int .i64 key] w fun e w' => e = .returned (.tuple #[.int .i64 (guessN ts key), .bool (hit ts key)]) ∧ Below w.heap.size w w' := by
  have HS := Lib.hid hsort
  clear hsort
  have HN := Lib.hid hs.len
  go_enter Tryd.func11, Tryd.ntmps11
  go_wp2_with fail
  refine (find_any A n c ts key _ ((hs.below ((Below.refl _ _).alloc (Nat.le_refl _) _)).mono (by simp)) HS.out (by omega)).mono ?_
  rintro e w' ⟨rfl, hb⟩
  have hb1 : Below w.heap.size w w' := ((Below.refl _ _).alloc (Nat.le_refl _) _).trans (hb.mono (by simp))
  have hz := hb.size
  simp only [World.size_alloc] at hz
  have hp : w'.cell? ⟨w.heap.size, 0, none⟩ = some (.slice A n c) := (hb.cell (p := ⟨w.heap.size, 0, none⟩) (by simp)).trans (by simp)
  by_cases hh : hit ts key = true
  · obtain ⟨t, ht, _, _⟩ := fnd_some hh
    have hle : lowb ts key < n := by rw [← HN.out]; exact (List.getElem?_eq_some_iff.1 ht).1
    have HV := Lib.hid (guess_hit ht hh)
    obtain ⟨k, hk⟩ : ∃ k, k = lowb ts key := ⟨_, rfl⟩
    rw [← hk] at ht hle
    rw [← hk]
    obtain ⟨ab, ao, rfl, hlo, hat⟩ := hs.at_ (by omega)
    have c1 : w'.cell? ⟨ab, ao + k * 3 + 1, none⟩ = some (.int .i64 t.to) := (hb1.cell (p := ⟨ab, _, none⟩) hlo).trans (hat k t ht 1 _ rfl)
    have HH := Lib.hid hh
    clear ht hat hk hh
    rw [HH.out]
    go_wp2
    try go_quiet (fail)
    try go_wp2
    go_ret2
    exact ⟨by rw [HV.out, HH.out]; rfl, (by repeat (first | (with_reducible exact hb1) | (with_reducible refine Below.drew ?_) | (with_reducible refine below_drewN ?_ _) | (with_reducible refine Below.setCell ?_ ?_ _; rotate_left; (first | omega | (simp <;> omega))) | (with_reducible refine Below.alloc ?_ ?_ _; rotate_left; (first | omega | (simp <;> omega)))))⟩
  · have hh : hit ts key = false := by simpa using hh
    have HV := Lib.hid (guess_miss hh)
    have HH := Lib.hid hh
    clear hh
    rw [HH.out]
    go_wp2
    go_ret2
    exact ⟨by rw [HV.out, HH.out]; rfl, hb1⟩

set_option maxHeartbeats 400000 in
theorem refguess_any (A : Option Addr) (n c : Nat) (ts : List Trk) (key : Int) (w : World) (hs : Sl w w.heap.size 3 Trk.cells A n ts) (hn : n ≤ 1000000) :
    Calls Tryd.prog 12 #[.agg #[.slice A n c], .int .i64 key] w fun e w' => e = .returned (.tuple #[.int .i64 (guessN ts key), .bool (hit ts key)]) ∧ Below w.heap.size w w' := by
  have HN := Lib.hid hs.len
  go_enter Tryd.func12, Tryd.ntmps12
  go_wp2_with fail
  refine (at_any A n c ts key _ ((hs.below ((Below.refl _ _).alloc (Nat.le_refl _) _)).mono (by simp)) (by omega)).mono ?_
  rintro e w' ⟨rfl, hb⟩
  have hb1 : Below w.heap.size w w' := ((Below.refl _ _).alloc (Nat.le_refl _) _).trans (hb.mono (by simp))
  have hz := hb.size
  simp only [World.size_alloc] at hz
  have hp : w'.cell? ⟨w.heap.size, 0, none⟩ = some (.slice A n c) := (hb.cell (p := ⟨w.heap.size, 0, none⟩) (by simp)).trans (by simp)
  by_cases hh : hit ts key = true
  · obtain ⟨t, ht, _, _⟩ := fnd_some hh
    have hle : lowb ts key < n := by rw [← HN.out]; exact (List.getElem?_eq_some_iff.1 ht).1
    have HV := Lib.hid (guess_hit ht hh)
    obtain ⟨k, hk⟩ : ∃ k, k = lowb ts key := ⟨_, rfl⟩
    rw [← hk] at ht hle
    rw [← hk]
    obtain ⟨ab, ao, rfl, hlo, hat⟩ := hs.at_ (by omega)
    have c1 : w'.cell? ⟨ab, ao + k * 3 + 1, none⟩ = some (.int .i64 t.to) := (hb1.cell (p := ⟨ab, _, none⟩) hlo).trans (hat k t ht 1 _ rfl)
    have HH := Lib.hid hh
    clear ht hat hk hh
    rw [HH.out]
    go_wp2
    try go_quiet (fail)
    try go_wp2
    go_ret2
    exact ⟨by rw [HV.out, HH.out]; rfl, (by repeat (first | (with_reducible exact hb1) | (with_reducible refine Below.drew ?_) | (with_reducible refine below_drewN ?_ _) | (with_reducible refine Below.setCell ?_ ?_ _; rotate_left; (first | omega | (simp <;> omega))) | (with_reducible refine Below.alloc ?_ ?_ _; rotate_left; (first | omega | (simp <;> omega)))))⟩
  · have hh : hit ts key = false := by simpa using hh
    have HV := Lib.hid (guess_miss hh)
    have HH := Lib.hid hh
    clear hh
    rw [HH.out]
    go_wp2
    go_ret2
    exact ⟨by rw [HV.out, HH.out]; rfl, hb1⟩
end Go.Proofs.YtbmembmiejmoaaaDoor
