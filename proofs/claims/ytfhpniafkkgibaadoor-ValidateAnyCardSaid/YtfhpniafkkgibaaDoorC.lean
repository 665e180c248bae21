/- What is read from a cell; program and reference. -/
import Derived.Test.YtfhpniafkkgibaaDoorA
namespace Go.Proofs.YtfhpniafkkgibaaDoor
open Go.RowKit

set_option maxHeartbeats 1000000 in
theorem read_any (A : Option Addr) (n c : Nat) (l : List Ob) (id f : Int) (w : World) (hs : Hp w w.heap.size A n l) (hn : n ≤ 9000000000000) :
    Calls Tryd.prog 25 #[.agg #[.slice A n c], .int .i64 id, .int .i64 f] w fun e w' => e = .returned (.tuple #[.agg #[.bool (readD id f (l.map Ob.po)).ref, .int .i64 (readD id f (l.map Ob.po)).n], .bool (readB id f (l.map Ob.po))]) ∧ Below w.heap.size w w' := by
  have HO := Lib.hid hs.obs
  obtain ⟨w2, hw2⟩ : ∃ w2, w2 = (w.alloc (.cells #[.slice A n c] 24)).alloc (.cells #[.bool false, .int .i64 0] 26) := ⟨_, rfl⟩
  have hb2 : Below w.heap.size w w2 := by rw [hw2]; exact (by repeat (first | (with_reducible exact (Below.refl _ _)) | (with_reducible refine Below.drew ?_) | (with_reducible refine below_drewN ?_ _) | (with_reducible refine Below.setCell ?_ ?_ _; rotate_left; (first | omega | (simp <;> omega))) | (with_reducible refine Below.alloc ?_ ?_ _; rotate_left; (first | omega | (simp <;> omega)))))
  have hz2 : w2.heap.size = w.heap.size + 2 := by rw [hw2]; simp
  have HC := Lib.hid (show w2.cell? ⟨w.heap.size, 0, none⟩ = some (.slice A n c) from by rw [hw2, cell_old _ _ _ _ (by simp), cell_new _ _ _ _ _ rfl]; rfl)
  have HD0 := Lib.hid (show w2.cell? ⟨w.heap.size + 1, 0, none⟩ = some (.bool false) from by rw [hw2, cell_new _ _ _ _ _ (by simp)]; rfl)
  have HD1 := Lib.hid (show w2.cell? ⟨w.heap.size + 1, 1, none⟩ = some (.int .i64 0) from by rw [hw2, cell_new _ _ _ _ _ (by simp)]; rfl)
  have HF := Lib.hid (show ∀ j, w2.frozen? ⟨w.heap.size + 1, j, none⟩ = false from fun j => by rw [hw2, frozen_new _ _ _ _ _ (by simp)])
  have HS2 := Lib.hid (hs.sl.up hb2)
  go_enter Tryd.func25, Tryd.ntmps25
  go_wp2_with fail
  rw [← hw2]
  have HW := Lib.hid hw2
  clear hw2
  refine (index_any A n c l id w2 HS2.out hn).mono ?_
  rintro e w3 ⟨rfl, hb3⟩
  have e0 : w3.cell? ⟨w.heap.size, 0, none⟩ = some (.slice A n c) := (belc hb3 (by omega)).trans HC.out
  have e1 : w3.cell? ⟨w.heap.size + 1, 0, none⟩ = some (.bool false) := (belc hb3 (by omega)).trans HD0.out
  have e2 : w3.cell? ⟨w.heap.size + 1, 1, none⟩ = some (.int .i64 0) := (belc hb3 (by omega)).trans HD1.out
  have f0 : w3.frozen? ⟨w.heap.size + 1, 0, none⟩ = false := (belf hb3 (by omega)).trans (HF.out 0)
  have f1 : w3.frozen? ⟨w.heap.size + 1, 1, none⟩ = false := (belf hb3 (by omega)).trans (HF.out 1)
  have hbw : Below w.heap.size w w3 := hb2.trans (hb3.mono hb2.size)
  rcases idx_cases id (l.map Ob.po) with ⟨hi, _⟩ | ⟨i, x, hi, hx, _, _⟩
  · obtain ⟨r1, r2⟩ := read_no (f := f) hi
    have HR1 := Lib.hid r1
    have HR2 := Lib.hid r2
    have HI := Lib.hid (show idxI id (l.map Ob.po) = -1 from by rw [idxI, hi])
    clear r1 r2 hi
    rw [HI.out]
    go_wp2
    refine bodyPost_ret (v := .tuple #[.agg #[.bool false, .int .i64 0], .bool false]) (by simp [results, Tryd.results25, go_sem, e1, e2]) rfl ?_
    exact ⟨by rw [HR1.out, HR2.out], (by repeat (first | (with_reducible exact hbw) | (with_reducible refine Below.drew ?_) | (with_reducible refine below_drewN ?_ _) | (with_reducible refine Below.setCell ?_ ?_ _; rotate_left; (first | omega | (simp <;> omega))) | (with_reducible refine Below.alloc ?_ ?_ _; rotate_left; (first | omega | (simp <;> omega)))))⟩
  · obtain ⟨o, ho, rfl⟩ := po_at' hx
    have hin : i < n := by rw [← hs.sl.len]; exact (List.getElem?_eq_some_iff.1 ho).1
    obtain ⟨o1, o2⟩ := HO.out o (List.mem_of_getElem? ho)
    obtain ⟨ab, ao, rfl, hlo, hat⟩ := hs.sl.at_ (by omega)
    have c1 : w3.cell? ⟨ab, ao + i * 2 + 1, none⟩ = some (.slice o.A o.n o.c) := (belc hbw hlo).trans (hat i o ho 1 _ rfl)
    have HI := Lib.hid (show idxI id (l.map Ob.po) = i from by rw [idxI, hi])
    have HX := Lib.hid hx
    have HI2 := Lib.hid hi
    have HOL := Lib.hid o1.len
    have hi0 : ¬ (i : Int) < 0 := by omega
    clear hat hx ho hi
    rw [HI.out]
    by_cases hf0 : f < 0
    · obtain ⟨r1, r2⟩ := read_neg (id := id) (l := l.map Ob.po) hf0
      have HR1 := Lib.hid r1
      have HR2 := Lib.hid r2
      clear r1 r2
      go_wp2
      refine bodyPost_ret (v := .tuple #[.agg #[.bool false, .int .i64 0], .bool false]) (by simp [results, Tryd.results25, go_sem, e1, e2]) rfl ?_
      exact ⟨by rw [HR1.out, HR2.out], (by repeat (first | (with_reducible exact hbw) | (with_reducible refine Below.drew ?_) | (with_reducible refine below_drewN ?_ _) | (with_reducible refine Below.setCell ?_ ?_ _; rotate_left; (first | omega | (simp <;> omega))) | (with_reducible refine Below.alloc ?_ ?_ _; rotate_left; (first | omega | (simp <;> omega)))))⟩
    · by_cases hfn : (o.n : Int) ≤ f
      · obtain ⟨r1, r2⟩ := read_far HI2.out HX.out (f := f) (by show (o.s.length : Int) ≤ f; rw [HOL.out]; exact hfn)
        have HR1 := Lib.hid r1
        have HR2 := Lib.hid r2
        clear r1 r2
        go_wp2
        refine bodyPost_ret (v := .tuple #[.agg #[.bool false, .int .i64 0], .bool false]) (by simp [results, Tryd.results25, go_sem, e1, e2]) rfl ?_
        exact ⟨by rw [HR1.out, HR2.out], (by repeat (first | (with_reducible exact hbw) | (with_reducible refine Below.drew ?_) | (with_reducible refine below_drewN ?_ _) | (with_reducible refine Below.setCell ?_ ?_ _; rotate_left; (first | omega | (simp <;> omega))) | (with_reducible refine Below.alloc ?_ ?_ _; rotate_left; (first | omega | (simp <;> omega)))))⟩
      · obtain ⟨j, rfl⟩ : ∃ j : Nat, f = j := ⟨f.toNat, by omega⟩
        have hjn : j < o.n := by omega
        have hjI : (j : Int) < (o.n : Int) := by omega
        obtain ⟨v, hv⟩ : ∃ v, o.s[j]? = some v := ⟨_, List.getElem?_eq_getElem (by rw [HOL.out]; exact hjn)⟩
        obtain ⟨fb, fo, hfA, hflo, hfat⟩ := o1.at_ (by omega)
        rw [hfA] at c1
        have d0 : w3.cell? ⟨fb, fo + j * 2, none⟩ = some (.bool v.ref) := (belc hbw hflo).trans (hfat j v hv 0 _ rfl)
        have d1 : w3.cell? ⟨fb, fo + j * 2 + 1, none⟩ = some (.int .i64 v.n) := (belc hbw hflo).trans (hfat j v hv 1 _ rfl)
        obtain ⟨r1, r2⟩ := read_at HI2.out HX.out (j := j) hv
        have HR1 := Lib.hid r1
        have HR2 := Lib.hid r2
        have HV := Lib.hid hv
        clear r1 r2 hv hfat
        go_wp2
        refine bodyPost_ret (v := .tuple #[.agg #[.bool v.ref, .int .i64 v.n], .bool true]) (by simp [results, Tryd.results25, go_sem, e1, e2]) rfl ?_
        exact ⟨by rw [HR1.out, HR2.out], (by repeat (first | (with_reducible exact hbw) | (with_reducible refine Below.drew ?_) | (with_reducible refine below_drewN ?_ _) | (with_reducible refine Below.setCell ?_ ?_ _; rotate_left; (first | omega | (simp <;> omega))) | (with_reducible refine Below.alloc ?_ ?_ _; rotate_left; (first | omega | (simp <;> omega)))))⟩
set_option maxHeartbeats 1000000 in
theorem refread_any (A : Option Addr) (n c : Nat) (l : List Ob) (id f : Int) (w : World) (hs : Hp w w.heap.size A n l) (hn : n ≤ 9000000000000) :
    Calls Tryd.prog 18 #[.agg #[.slice A n c], .int .i64 id, .int .i64 f] w fun e w' => e = .returned (.tuple #[.agg #[.bool (readD id f (l.map Ob.po)).ref, .int .i64 (readD id f (l.map Ob.po)).n], .bool (readB id f (l.map Ob.po))]) ∧ Below w.heap.size w w' := by
  have HO := Lib.hid hs.obs
  obtain ⟨w2, hw2⟩ : ∃ w2, w2 = (w.alloc (.cells #[.slice A n c] 24)).alloc (.cells #[.bool false, .int .i64 0] 26) := ⟨_, rfl⟩
  have hb2 : Below w.heap.size w w2 := by rw [hw2]; exact (by repeat (first | (with_reducible exact (Below.refl _ _)) | (with_reducible refine Below.drew ?_) | (with_reducible refine below_drewN ?_ _) | (with_reducible refine Below.setCell ?_ ?_ _; rotate_left; (first | omega | (simp <;> omega))) | (with_reducible refine Below.alloc ?_ ?_ _; rotate_left; (first | omega | (simp <;> omega)))))
  have hz2 : w2.heap.size = w.heap.size + 2 := by rw [hw2]; simp
  have HC := Lib.hid (show w2.cell? ⟨w.heap.size, 0, none⟩ = some (.slice A n c) from by rw [hw2, cell_old _ _ _ _ (by simp), cell_new _ _ _ _ _ rfl]; rfl)
  have HD0 := Lib.hid (show w2.cell? ⟨w.heap.size + 1, 0, none⟩ = some (.bool false) from by rw [hw2, cell_new _ _ _ _ _ (by simp)]; rfl)
  have HD1 := Lib.hid (show w2.cell? ⟨w.heap.size + 1, 1, none⟩ = some (.int .i64 0) from by rw [hw2, cell_new _ _ _ _ _ (by simp)]; rfl)
  have HF := Lib.hid (show ∀ j, w2.frozen? ⟨w.heap.size + 1, j, none⟩ = false from fun j => by rw [hw2, frozen_new _ _ _ _ _ (by simp)])
  have HS2 := Lib.hid (hs.sl.up hb2)
  go_enter Tryd.func18, Tryd.ntmps18
  go_wp2_with fail
  rw [← hw2]
  have HW := Lib.hid hw2
  clear hw2
  refine (refat_any A n c l id w2 HS2.out hn).mono ?_
  rintro e w3 ⟨rfl, hb3⟩
  have e0 : w3.cell? ⟨w.heap.size, 0, none⟩ = some (.slice A n c) := (belc hb3 (by omega)).trans HC.out
  have e1 : w3.cell? ⟨w.heap.size + 1, 0, none⟩ = some (.bool false) := (belc hb3 (by omega)).trans HD0.out
  have e2 : w3.cell? ⟨w.heap.size + 1, 1, none⟩ = some (.int .i64 0) := (belc hb3 (by omega)).trans HD1.out
  have f0 : w3.frozen? ⟨w.heap.size + 1, 0, none⟩ = false := (belf hb3 (by omega)).trans (HF.out 0)
  have f1 : w3.frozen? ⟨w.heap.size + 1, 1, none⟩ = false := (belf hb3 (by omega)).trans (HF.out 1)
  have hbw : Below w.heap.size w w3 := hb2.trans (hb3.mono hb2.size)
  rcases idx_cases id (l.map Ob.po) with ⟨hi, _⟩ | ⟨i, x, hi, hx, _, _⟩
  · obtain ⟨r1, r2⟩ := read_no (f := f) hi
    have HR1 := Lib.hid r1
    have HR2 := Lib.hid r2
    have HI := Lib.hid (show idxI id (l.map Ob.po) = -1 from by rw [idxI, hi])
    clear r1 r2 hi
    rw [HI.out]
    go_wp2
    refine bodyPost_ret (v := .tuple #[.agg #[.bool false, .int .i64 0], .bool false]) (by simp [results, Tryd.results18, go_sem, e1, e2]) rfl ?_
    exact ⟨by rw [HR1.out, HR2.out], (by repeat (first | (with_reducible exact hbw) | (with_reducible refine Below.drew ?_) | (with_reducible refine below_drewN ?_ _) | (with_reducible refine Below.setCell ?_ ?_ _; rotate_left; (first | omega | (simp <;> omega))) | (with_reducible refine Below.alloc ?_ ?_ _; rotate_left; (first | omega | (simp <;> omega)))))⟩
  · obtain ⟨o, ho, rfl⟩ := po_at' hx
    have hin : i < n := by rw [← hs.sl.len]; exact (List.getElem?_eq_some_iff.1 ho).1
    obtain ⟨o1, o2⟩ := HO.out o (List.mem_of_getElem? ho)
    obtain ⟨ab, ao, rfl, hlo, hat⟩ := hs.sl.at_ (by omega)
    have c1 : w3.cell? ⟨ab, ao + i * 2 + 1, none⟩ = some (.slice o.A o.n o.c) := (belc hbw hlo).trans (hat i o ho 1 _ rfl)
    have HI := Lib.hid (show idxI id (l.map Ob.po) = i from by rw [idxI, hi])
    have HX := Lib.hid hx
    have HI2 := Lib.hid hi
    have HOL := Lib.hid o1.len
    have hi0 : ¬ (i : Int) < 0 := by omega
    clear hat hx ho hi
    rw [HI.out]
    by_cases hf0 : f < 0
    · obtain ⟨r1, r2⟩ := read_neg (id := id) (l := l.map Ob.po) hf0
      have HR1 := Lib.hid r1
      have HR2 := Lib.hid r2
      clear r1 r2
      go_wp2
      refine bodyPost_ret (v := .tuple #[.agg #[.bool false, .int .i64 0], .bool false]) (by simp [results, Tryd.results18, go_sem, e1, e2]) rfl ?_
      exact ⟨by rw [HR1.out, HR2.out], (by repeat (first | (with_reducible exact hbw) | (with_reducible refine Below.drew ?_) | (with_reducible refine below_drewN ?_ _) | (with_reducible refine Below.setCell ?_ ?_ _; rotate_left; (first | omega | (simp <;> omega))) | (with_reducible refine Below.alloc ?_ ?_ _; rotate_left; (first | omega | (simp <;> omega)))))⟩
    · by_cases hfn : (o.n : Int) ≤ f
      · obtain ⟨r1, r2⟩ := read_far HI2.out HX.out (f := f) (by show (o.s.length : Int) ≤ f; rw [HOL.out]; exact hfn)
        have HR1 := Lib.hid r1
        have HR2 := Lib.hid r2
        clear r1 r2
        go_wp2
        refine bodyPost_ret (v := .tuple #[.agg #[.bool false, .int .i64 0], .bool false]) (by simp [results, Tryd.results18, go_sem, e1, e2]) rfl ?_
        exact ⟨by rw [HR1.out, HR2.out], (by repeat (first | (with_reducible exact hbw) | (with_reducible refine Below.drew ?_) | (with_reducible refine below_drewN ?_ _) | (with_reducible refine Below.setCell ?_ ?_ _; rotate_left; (first | omega | (simp <;> omega))) | (with_reducible refine Below.alloc ?_ ?_ _; rotate_left; (first | omega | (simp <;> omega)))))⟩
      · obtain ⟨j, rfl⟩ : ∃ j : Nat, f = j := ⟨f.toNat, by omega⟩
        have hjn : j < o.n := by omega
        have hjI : (j : Int) < (o.n : Int) := by omega
        obtain ⟨v, hv⟩ : ∃ v, o.s[j]? = some v := ⟨_, List.getElem?_eq_getElem (by rw [HOL.out]; exact hjn)⟩
        obtain ⟨fb, fo, hfA, hflo, hfat⟩ := o1.at_ (by omega)
        rw [hfA] at c1
        have d0 : w3.cell? ⟨fb, fo + j * 2, none⟩ = some (.bool v.ref) := (belc hbw hflo).trans (hfat j v hv 0 _ rfl)
        have d1 : w3.cell? ⟨fb, fo + j * 2 + 1, none⟩ = some (.int .i64 v.n) := (belc hbw hflo).trans (hfat j v hv 1 _ rfl)
        obtain ⟨r1, r2⟩ := read_at HI2.out HX.out (j := j) hv
        have HR1 := Lib.hid r1
        have HR2 := Lib.hid r2
        have HV := Lib.hid hv
        clear r1 r2 hv hfat
        go_wp2
        refine bodyPost_ret (v := .tuple #[.agg #[.bool v.ref, .int .i64 v.n], .bool true]) (by simp [results, Tryd.results18, go_sem, e1, e2]) rfl ?_
        exact ⟨by rw [HR1.out, HR2.out], (by repeat (first | (with_reducible exact hbw) | (with_reducible refine Below.drew ?_) | (with_reducible refine below_drewN ?_ _) | (with_reducible refine Below.setCell ?_ ?_ _; rotate_left; (first | omega | (simp <;> omega))) | (with_reducible refine Below.alloc ?_ ?_ _; rotate_left; (first | omega | (simp <;> omega)))))⟩
end Go.Proofs.YtfhpniafkkgibaaDoor
