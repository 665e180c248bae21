/- The sanity check of the laws of delays. -/
import Derived.Test.YteeglmlmconbmaaG
import Derived.Test.YteeglmlmconbmaaI
namespace Go.Proofs.Yteeglmlmconbmaa
open Go.RowKit

def ex2 : List Pr := train (train [] 3 7) 3 7
theorem ex2_is : ex2 = [⟨3, 7, 2⟩] := rfl
def mkTk (s : Int) : Tk := ⟨s, 0, 0, .int .i64 s :: zeroCells.tail, rfl, rfl, rfl, rfl, by simp [zeroCells, Value.oneCell', List.replicate]⟩

set_option maxRecDepth 100000 in
set_option maxHeartbeats 2000000 in
theorem sane_any (w : World) : Calls Try.prog 4 #[] w fun e w' => e = .returned (.bool true) ∧ Below w.heap.size w w' := by
  go_enter Try.func4, Try.ntmps4
  go_wp2_with fail
  refine (train_any none 0 0 [] 3 7 _ Sl.nil (by omega) good_nil).mono ?_
  rintro e w1 ⟨A1, n1, c1, rfl, hs1, hb1, _⟩
  have hl1 : n1 = 1 := hs1.len.symm
  subst hl1
  go_wp2_with fail
  refine (train_any A1 1 c1 (train [] 3 7) 3 7 _ hs1 (by omega) ⟨fun i j u v hij hu hv => by
    have hj := (List.getElem?_eq_some_iff.1 hv).1
    have : (train [] 3 7).length = 1 := rfl
    omega, fun i t ht => by
    have hj := (List.getElem?_eq_some_iff.1 ht).1
    have h1 : (train [] 3 7).length = 1 := rfl
    obtain rfl : i = 0 := by omega
    have : t = ⟨3, 7, 1⟩ := by
      have h2 : (train [] 3 7)[0]? = some ⟨3, 7, 1⟩ := rfl
      rw [h2] at ht; injection ht with ht; exact ht.symm
    subst this
    exact ⟨by decide, by decide⟩⟩).mono ?_
  rintro e w2 ⟨A2, n2, c2, rfl, hs2, hb2, _⟩
  have hl2 : n2 = 1 := hs2.len.symm
  subst hl2
  have hb02 : Below w.heap.size w w2 := hb1.trans (hb2.mono hb1.size)
  go_wp2_with fail
  obtain ⟨W, hW⟩ : ∃ W, W = (w2.alloc (.cells #[.slice A2 1 c2] 25)).alloc (.cells ((mkTk 3).cells ++ (mkTk 7).cells).toArray 44) := ⟨_, rfl⟩
  change Calls _ _ _ ((w2.alloc (.cells #[.slice A2 1 c2] 25)).alloc (.cells ((mkTk 3).cells ++ (mkTk 7).cells).toArray 44)) _
  rw [← hW]
  have hbW : Below w2.heap.size w2 W := by rw [hW]; exact (by repeat (first | (with_reducible exact (Below.refl _ _)) | (with_reducible refine Below.drew ?_) | (with_reducible refine below_drewN ?_ _) | (with_reducible refine Below.setCell ?_ ?_ _; rotate_left; (first | omega | (simp <;> omega))) | (with_reducible refine Below.alloc ?_ ?_ _; rotate_left; (first | omega | (simp <;> omega)))))
  have hzW : W.heap.size = w2.heap.size + 2 := by rw [hW]; simp
  have q0 : W.cell? ⟨w2.heap.size, 0, none⟩ = some (.slice A2 1 c2) := (by rw [hW, cell_old _ _ _ _ (by simp <;> omega), cell_new _ _ _ _ _ (by simp <;> omega)]; rfl)
  have hs : Sl W W.heap.size 3 Pr.cells A2 1 ex2 := hs2.up hbW
  have hl : Sl W W.heap.size 48 Tk.cells (some ⟨w2.heap.size + 1, 0, none⟩) 2 [mkTk 3, mkTk 7] := by
    refine ⟨rfl, fun _ => ⟨w2.heap.size + 1, 0, rfl, by omega, fun i x hx j u hu => ?_⟩⟩
    have hi : i < 2 := by have := (List.getElem?_eq_some_iff.1 hx).1; simpa using this
    have hj : j < 48 := by have := (List.getElem?_eq_some_iff.1 hu).1; rwa [x.size] at this
    rw [hW, cell_new _ _ _ _ _ (by simp), List.getElem?_toArray, Nat.zero_add]
    match i, hi with
    | 0, _ =>
      injection hx with hx
      subst hx
      rw [Nat.zero_mul, Nat.zero_add, List.getElem?_append_left (by rw [Tk.size]; exact hj)]
      exact hu
    | 1, _ =>
      injection hx with hx
      subst hx
      rw [List.getElem?_append_right (by rw [Tk.size]; omega), Tk.size, show 1 * 48 + j - 48 = j by omega]
      exact hu
  have HS := Lib.hid hs
  have HLT := Lib.hid hl
  have hb0 : Below w.heap.size w W := hb02.trans (hbW.mono hb02.size)
  have HZ := Lib.hid hzW
  have hsrt : Sorted ex2 := fun i j u v hij hu hv => by
    have hj := (List.getElem?_eq_some_iff.1 hv).1
    rw [ex2_is] at hj
    simp at hj
    omega
  have hgd : ∀ (i : Nat) (t : Pr), ex2[i]? = some t → 1 ≤ t.cnt ∧ t.cnt ≤ 1048576 := fun i t ht => by
    have hj := (List.getElem?_eq_some_iff.1 ht).1
    rw [ex2_is] at hj ht
    simp at hj
    subst hj
    injection ht with ht
    subst ht
    exact ⟨by decide, by decide⟩
  have HSO := Lib.hid hsrt
  have HGD := Lib.hid hgd
  clear hW hzW hs hl hs1 hs2 hsrt hgd
  refine (count_any A2 1 c2 ex2 3 7 W HS.out HSO.out (by omega)).mono ?_
  rintro e w3 ⟨rfl, hb3⟩
  rw [show countP ex2 3 7 = 2 from rfl]
  have q0 := (belc hb3 (by have := HZ.out; omega)).trans q0
  have hb03 := hb0.trans (hb3.mono hb0.size)
  have hb3W := hb3
  go_wp2_with fail
  refine (decay_any A2 1 c2 ex2 w3 (HS.out.up hb3W) (by omega) HGD.out).mono ?_
  rintro e w4 ⟨A4, n4, c4, rfl, hs4, hb4, _⟩
  have hl4 : n4 = 1 := hs4.len.symm
  subst hl4
  have hb4W := hb3W.trans (hb4.mono hb3W.size)
  have q0 := (belc hb4 (by have := HZ.out; have := hb3W.size; omega)).trans q0
  have hb04 := hb03.trans (hb4.mono hb03.size)
  go_wp2_with fail
  refine (count_any A4 1 c4 (decayP ex2) 3 7 w4 hs4 (fun i j u v hij hu hv => by
    have hj := (List.getElem?_eq_some_iff.1 hv).1
    have h1 : (decayP ex2).length = 1 := rfl
    omega) (by omega)).mono ?_
  rintro e w5 ⟨rfl, hb5⟩
  rw [show countP (decayP ex2) 3 7 = 1 from rfl]
  have hb5W := hb4W.trans (hb5.mono hb4W.size)
  have q0 := (belc hb5 (by have := HZ.out; have := hb4W.size; omega)).trans q0
  have hb05 := hb04.trans (hb5.mono hb04.size)
  go_wp2_with fail
  refine (waits_any A2 1 c2 ex2 (some ⟨w2.heap.size + 1, 0, none⟩) 2 2 [mkTk 3, mkTk 7] 1 2 (mkTk 7) w5 (HS.out.up hb5W) HSO.out (by omega) (HLT.out.up hb5W) (by omega) (by omega) rfl (by omega)).mono ?_
  rintro e w6 ⟨rfl, hb6⟩
  rw [show waitsP ex2 [mkTk 3, mkTk 7] 1 2 (mkTk 7).start = 0 from rfl]
  have hb6W := hb5W.trans (hb6.mono hb5W.size)
  have q0 := (belc hb6 (by have := HZ.out; have := hb5W.size; omega)).trans q0
  have hb06 := hb05.trans (hb6.mono hb05.size)
  go_wp2_with fail
  refine (waits_any A2 1 c2 ex2 (some ⟨w2.heap.size + 1, 0, none⟩) 2 2 [mkTk 3, mkTk 7] 1 3 (mkTk 7) w6 (HS.out.up hb6W) HSO.out (by omega) (HLT.out.up hb6W) (by omega) (by omega) rfl (by omega)).mono ?_
  rintro e w7 ⟨rfl, hb7⟩
  rw [show waitsP ex2 [mkTk 3, mkTk 7] 1 3 (mkTk 7).start = -1 from rfl]
  have hb7W := hb6W.trans (hb7.mono hb6W.size)
  have q0 := (belc hb7 (by have := HZ.out; have := hb6W.size; omega)).trans q0
  have hb07 := hb06.trans (hb7.mono hb06.size)
  go_wp2_with fail
  refine (waits_any A2 1 c2 ex2 (some ⟨w2.heap.size + 1, 0, none⟩) 2 2 [mkTk 3, mkTk 7] 0 1 (mkTk 3) w7 (HS.out.up hb7W) HSO.out (by omega) (HLT.out.up hb7W) (by omega) (by omega) rfl (by omega)).mono ?_
  rintro e w8 ⟨rfl, hb8⟩
  rw [show waitsP ex2 [mkTk 3, mkTk 7] 0 1 (mkTk 3).start = -1 from rfl]
  have hb08 := hb07.trans (hb8.mono hb07.size)
  go_wp2
  go_ret
  exact ⟨rfl, hb08⟩
end Go.Proofs.Yteeglmlmconbmaa
