/- A cell written: the program. -/
import Derived.Test.YtohflngcgmcllaaP
import Derived.Test.YtohflngcgmcllaaC
namespace Go.Proofs.Ytohflngcgmcllaa
open Go.RowKit

/-- What a call leaves that gives a heap to be read, and whether there is one. -/
def GivesRB (lo : Nat) (L : List PO) (b : Bool) (w : World) (e : Ending) (w' : World) : Prop := ∃ (A : Option Addr) (n c : Nat) (l : List Ob), e = .returned (.tuple #[.agg #[.slice A n c], .bool b]) ∧ l.map Ob.po = L ∧ n = L.length ∧ Hid (Hp w' w'.heap.size A n l) ∧ Hid (Fr lo A l) ∧ Below w.heap.size w w'

set_option maxHeartbeats 4000000 in
theorem write_any (A : Option Addr) (n c : Nat) (l : List Ob) (id f : Int) (v : Val) (w : World) (hs : Hp w w.heap.size A n l) (hn : n ≤ 4398046510976) :
    Calls Try.prog 13 #[.agg #[.slice A n c], .int .i64 id, .int .i64 f, .agg #[.bool v.ref, .int .i64 v.n]] w (GivesRB w.heap.size (wroteL id f v (l.map Ob.po)) (readB id f (l.map Ob.po)) w) := by
  have HL := Lib.hid hs.sl.len
  obtain ⟨w2, hw2⟩ : ∃ w2, w2 = ((w.alloc (.cells #[.slice A n c] 24)).alloc (.cells #[.bool v.ref, .int .i64 v.n] 29)).alloc (.cells #[.slice none 0 0] 24) := ⟨_, rfl⟩
  have hb2 : Below w.heap.size w w2 := by rw [hw2]; exact (by repeat (first | (with_reducible exact (Below.refl _ _)) | (with_reducible refine Below.drew ?_) | (with_reducible refine below_drewN ?_ _) | (with_reducible refine Below.setCell ?_ ?_ _; rotate_left; (first | omega | (simp <;> omega))) | (with_reducible refine Below.alloc ?_ ?_ _; rotate_left; (first | omega | (simp <;> omega)))))
  have hz2 : w2.heap.size = w.heap.size + 3 := by rw [hw2]; simp
  have HA := Lib.hid (show w2.cell? ⟨w.heap.size, 0, none⟩ = some (.slice A n c) from by rw [hw2, cell_old _ _ _ _ (by simp <;> omega), cell_old _ _ _ _ (by simp), cell_new _ _ _ _ _ rfl]; rfl)
  have HB0 := Lib.hid (show w2.cell? ⟨w.heap.size + 1, 0, none⟩ = some (.bool v.ref) from by rw [hw2, cell_old _ _ _ _ (by simp), cell_new _ _ _ _ _ (by simp)]; rfl)
  have HB1 := Lib.hid (show w2.cell? ⟨w.heap.size + 1, 1, none⟩ = some (.int .i64 v.n) from by rw [hw2, cell_old _ _ _ _ (by simp), cell_new _ _ _ _ _ (by simp)]; rfl)
  have HD := Lib.hid (show w2.cell? ⟨w.heap.size + 2, 0, none⟩ = some (.slice none 0 0) from by rw [hw2, cell_new _ _ _ _ _ (by simp)]; rfl)
  have HF := Lib.hid (show w2.frozen? ⟨w.heap.size + 2, 0, none⟩ = false from by rw [hw2, frozen_new _ _ _ _ _ (by simp)])
  have HS2 := Lib.hid (hs.up hb2)
  clear hs
  go_enter Try.func13, Try.ntmps13
  go_wp2_with fail
  rw [← hw2]
  have HW := Lib.hid hw2
  clear hw2
  refine (read_any A n c l id f w2 HS2.out (by omega)).mono ?_
  rintro e w3 ⟨rfl, hb3⟩
  have hz3 := hb3.size
  have e0 : w3.cell? ⟨w.heap.size, 0, none⟩ = some (.slice A n c) := (belc hb3 (by omega)).trans HA.out
  have e1 : w3.cell? ⟨w.heap.size + 1, 0, none⟩ = some (.bool v.ref) := (belc hb3 (by omega)).trans HB0.out
  have e2 : w3.cell? ⟨w.heap.size + 1, 1, none⟩ = some (.int .i64 v.n) := (belc hb3 (by omega)).trans HB1.out
  have e3 : w3.cell? ⟨w.heap.size + 2, 0, none⟩ = some (.slice none 0 0) := (belc hb3 (by omega)).trans HD.out
  have f3 : w3.frozen? ⟨w.heap.size + 2, 0, none⟩ = false := (belf hb3 (by omega)).trans HF.out
  have q0 : w.heap.size < w3.heap.size := by omega
  have q1 : w.heap.size + 1 < w3.heap.size := by omega
  have q2 : w.heap.size + 2 < w3.heap.size := by omega
  have hbw3 : Below w.heap.size w w3 := hb2.trans (hb3.mono hb2.size)
  cases hrb : readB id f (l.map Ob.po) with
  | false =>
    have HR := Lib.hid (wrote_no (v := v) hrb)
    have HRB := Lib.hid hrb
    clear hrb
    go_wp2
    refine bodyPost_ret (v := .tuple #[.agg #[.slice none 0 0], .bool false]) (by simp [results, Try.results13, go_sem, e3, World.cell?_alloc_lt, q2]) rfl ?_
    rw [HRB.out]
    refine ⟨none, 0, 0, [], rfl, by rw [HR.out]; rfl, by rw [HR.out]; rfl, Lib.hid Hp.nil, Lib.hid Fr.nil, (by repeat (first | (with_reducible exact hbw3) | (with_reducible refine Below.drew ?_) | (with_reducible refine below_drewN ?_ _) | (with_reducible refine Below.setCell ?_ ?_ _; rotate_left; (first | omega | (simp <;> omega))) | (with_reducible refine Below.alloc ?_ ?_ _; rotate_left; (first | omega | (simp <;> omega)))))⟩
  | true =>
    obtain ⟨i, j, x0, hi, hx0, rfl, hj⟩ := readB_true hrb
    obtain ⟨x, hx, rfl⟩ := po_at' hx0
    have HR := Lib.hid ((wrote_at (v := v) hrb hi).trans (writeO_set hx0))
    have HRB := Lib.hid hrb
    have HI := Lib.hid (show idxI id (l.map Ob.po) = i from by rw [idxI, hi])
    have hin : i < n := by rw [← HL.out]; exact (List.getElem?_eq_some_iff.1 hx).1
    have HX := Lib.hid hx
    have HJ := Lib.hid hj
    clear hrb hi hx0 hx hj
    obtain ⟨W0, hW0⟩ : ∃ W0, W0 = w3.alloc (.cells #[.bool (readD id (j : Int) (l.map Ob.po)).ref, .int .i64 (readD id (j : Int) (l.map Ob.po)).n] 29) := ⟨_, rfl⟩
    have hbW0 : Below w3.heap.size w3 W0 := by rw [hW0]; exact (by repeat (first | (with_reducible exact (Below.refl _ _)) | (with_reducible refine Below.drew ?_) | (with_reducible refine below_drewN ?_ _) | (with_reducible refine Below.setCell ?_ ?_ _; rotate_left; (first | omega | (simp <;> omega))) | (with_reducible refine Below.alloc ?_ ?_ _; rotate_left; (first | omega | (simp <;> omega)))))
    have hzW0 := hbW0.size
    have hb20 : Below w2.heap.size w2 W0 := hb3.trans (hbW0.mono hz3)
    go_wp2_with fail
    rw [← hW0]
    have HW0 := Lib.hid hW0
    clear hW0
    refine (all_any A n c l W0 (HS2.out.up hb20) hn).mono ?_
    rintro e w4 ⟨A4, n4, c4, lo, l4, rfl, hpo, hn4, hlo, hown4, hb4⟩
    obtain rfl : n4 = n := by rw [hn4, List.length_map]; exact HL.out
    have hz4 := hb4.size
    have hb24 : Below w2.heap.size w2 w4 := hb20.trans (hb4.mono hb20.size)
    have hb34 : Below w3.heap.size w3 w4 := hbW0.trans (hb4.mono hzW0)
    have HP := Lib.hid hpo
    have HN := Lib.hid hn4
    clear hpo hn4 e0 e1 e2 e3 f3
    -- the copied object
    obtain ⟨y, hy⟩ : ∃ y, l4[i]? = some y := ⟨_, List.getElem?_eq_getElem (by rw [hown4.out.len]; exact hin)⟩
    have hyx : y.po = x.po := by
      have h1 := po_at hy
      rw [HP.out, po_at HX.out] at h1
      injection h1 with h1; exact h1.symm
    have hys : y.s = x.s := by injection hyx
    have hcp := hown4.out.cps y (List.mem_of_getElem? hy)
    have hjy : j < y.n := by have := hcp.sl.len; have h2 : j < x.po.s.length := HJ.out; have h3 : x.po.s = x.s := rfl; rw [hys] at this; rw [h3] at h2; omega
    obtain ⟨fb, hfA, hflo, hffz⟩ := hcp.own (by omega)
    have hfsl := hcp.sl
    rw [hfA] at hfsl
    have hfb : fb < w4.heap.size := hfsl.lt (by omega)
    obtain ⟨t, ht⟩ : ∃ t, y.s[j]? = some t := ⟨_, List.getElem?_eq_getElem (by rw [hcp.sl.len]; exact hjy)⟩
    have t0 : w4.cell? ⟨fb, j * 2, none⟩ = some (.bool t.ref) := by have := sl_at hfsl ht (j := 0) rfl; rwa [Nat.zero_add] at this
    have t1 : w4.cell? ⟨fb, j * 2 + 1, none⟩ = some (.int .i64 t.n) := by have := sl_at hfsl ht (j := 1) rfl; rwa [Nat.zero_add] at this
    have hrs := hown4.out.hp.sl
    obtain ⟨g, rfl, hg0, hg1, _⟩ := own_at0 hown4.out.row (by omega)
    have r1 : w4.cell? ⟨g, i * 2 + 1, none⟩ = some (.slice (some ⟨fb, 0, none⟩) y.n y.c) := by have := sl_at hrs hy (j := 1) rfl; rw [Nat.zero_add, hfA] at this; exact this
    have hgl : g < lo := hown4.out.low _ rfl
    obtain ⟨W, hW⟩ : ∃ W, W = w4.alloc (.cells #[.slice (some ⟨g, 0, none⟩) n4 c4] 24) := ⟨_, rfl⟩
    have hbW : Below w4.heap.size w4 W := by rw [hW]; exact (by repeat (first | (with_reducible exact (Below.refl _ _)) | (with_reducible refine Below.drew ?_) | (with_reducible refine below_drewN ?_ _) | (with_reducible refine Below.setCell ?_ ?_ _; rotate_left; (first | omega | (simp <;> omega))) | (with_reducible refine Below.alloc ?_ ?_ _; rotate_left; (first | omega | (simp <;> omega)))))
    have hzW : W.heap.size = w4.heap.size + 1 := by rw [hW]; simp
    have hb2W : Below w2.heap.size w2 W := hb24.trans (hbW.mono hb24.size)
    have k0 : W.cell? ⟨w.heap.size, 0, none⟩ = some (.slice A n4 c) := (belc hb2W (by omega)).trans HA.out
    have k1 : W.cell? ⟨w.heap.size + 1, 0, none⟩ = some (.bool v.ref) := (belc hb2W (by omega)).trans HB0.out
    have k2 : W.cell? ⟨w.heap.size + 1, 1, none⟩ = some (.int .i64 v.n) := (belc hb2W (by omega)).trans HB1.out
    have k3 : W.cell? ⟨w.heap.size + 2, 0, none⟩ = some (.slice none 0 0) := (belc hb2W (by omega)).trans HD.out
    have j3 : W.frozen? ⟨w.heap.size + 2, 0, none⟩ = false := (belf hb2W (by omega)).trans HF.out
    have k4 : W.cell? ⟨w4.heap.size, 0, none⟩ = some (.slice (some ⟨g, 0, none⟩) n4 c4) := by rw [hW, cell_new _ _ _ _ _ rfl]; rfl
    have k5 : W.cell? ⟨g, i * 2 + 1, none⟩ = some (.slice (some ⟨fb, 0, none⟩) y.n y.c) := (belc hbW hg1).trans r1
    have k6 : W.cell? ⟨fb, j * 2, none⟩ = some (.bool t.ref) := (belc hbW hfb).trans t0
    have k7 : W.cell? ⟨fb, j * 2 + 1, none⟩ = some (.int .i64 t.n) := (belc hbW hfb).trans t1
    have j6 : W.frozen? ⟨fb, j * 2, none⟩ = false := (belf hbW hfb).trans (hffz _)
    have j7 : W.frozen? ⟨fb, j * 2 + 1, none⟩ = false := (belf hbW hfb).trans (hffz _)
    have S5 := Lib.hid ((HS2.out.up (hb2W.trans (Below.drew (Below.refl _ _))) : Hp W.drew W.drew.heap.size A n4 l).sl)
    have l0 : w.heap.size < W.heap.size := by omega
    have l1 : w.heap.size + 1 < W.heap.size := by omega
    have l2 : w.heap.size + 2 < W.heap.size := by omega
    have l3 : w4.heap.size < W.heap.size := by omega
    have l5 : g < W.heap.size := by omega
    have l6 : fb < W.heap.size := by omega
    have hinI : (i : Int) < (n4 : Int) := by omega
    have hjyI : (j : Int) < (y.n : Int) := by omega
    have n1 : w.heap.size ≠ fb := by omega
    have n2 : w.heap.size + 1 ≠ fb := by omega
    have n3 : w4.heap.size ≠ fb := by omega
    have n5 : g ≠ fb := by omega
    have n6 : w.heap.size + 2 ≠ fb := by omega
    have HY := Lib.hid hy
    have HYX := Lib.hid hyx
    have HFA := Lib.hid hfA
    have HYS := Lib.hid hys
    clear hy hyx hfA hys hcp hfsl ht t0 t1 r1 hrs hffz
    go_wp2_with fail
    rw [← hW]
    have HWW := Lib.hid hW
    clear hW
    go_region_held3 (fun w' => w'.cell? ⟨w4.heap.size, 0, none⟩ = some (.slice (some ⟨g, 0, none⟩) n4 c4) ∧ w'.cell? ⟨w.heap.size, 0, none⟩ = some (.slice A n4 c) ∧ w'.cell? ⟨w.heap.size + 1, 0, none⟩ = some (.bool v.ref) ∧ w'.cell? ⟨w.heap.size + 1, 1, none⟩ = some (.int .i64 v.n) ∧ w'.cell? ⟨g, i * 2 + 1, none⟩ = some (.slice (some ⟨fb, 0, none⟩) y.n y.c))
      (first | exact ⟨k4, k0, k1, k2, k5⟩ | exact ⟨p4, p0, p1, p2, p5⟩ | exact ⟨by rw [set_other _ _ _ _ (by simp), set_other _ _ _ _ (by simp)]; exact p4, by rw [set_other _ _ _ _ (by simp), set_other _ _ _ _ (by simp)]; exact p0, by rw [set_other _ _ _ _ (by simp), set_other _ _ _ _ (by simp)]; exact p1, by rw [set_other _ _ _ _ (by simp), set_other _ _ _ _ (by simp)]; exact p2, by rw [set_other _ _ _ _ (by simp), set_other _ _ _ _ (by simp)]; exact p5⟩)
      (first
        | (go_at_call 23; refine (index_any A n4 c l id W.drew S5.out (by omega)).mono ?_; rintro e Y ⟨rfl, hb5⟩; have hb5 : Below W.heap.size W Y := (Below.drew (Below.refl _ _)).trans hb5; rw [HI.out]; have p0 := (belc hb5 l0).trans k0; have p1 := (belc hb5 l1).trans k1; have p2 := (belc hb5 l1).trans k2; have p4 := (belc hb5 l3).trans k4; have p5 := (belc hb5 l5).trans k5; have q6 := (belc hb5 l6).trans k6; have q7 := (belc hb5 l6).trans k7; have o6 := (belf hb5 l6).trans j6; have o7 := (belf hb5 l6).trans j7; have s3 := (belc hb5 l2).trans k3; have u3 := (belf hb5 l2).trans j3))
    all_goals
      go_wp2
      refine bodyPost_ret (v := .tuple #[.agg #[.slice (some ⟨g, 0, none⟩) n4 c4], .bool true]) (by simp [results, Try.results13, go_sem, s3]) rfl ?_
      rw [HRB.out]
      have hbY : Below w4.heap.size w4 Y := hbW.trans (hb5.mono (by omega))
      have hbw4 : Below w.heap.size w w4 := hb2.trans (hb24.mono hb2.size)
      have hfin := write_fin (r := w.heap.size + 2) (v := v) (u := .slice (some ⟨g, 0, none⟩) n4 c4) (j := j) hown4.out hbY HY.out HFA.out hjy (by omega) (by omega) hz4
      refine ⟨_, n4, c4, _, rfl, ?_, ?_, Lib.hid hfin, Lib.hid ?_, ?_⟩
      · rw [List.map_set, HP.out, HR.out]
        have h1 : y.po = x.po := HYX.out
        have h2 : y.id = x.po.id := by rw [← h1]; rfl
        have h3 : y.s = x.po.s := by rw [← h1]; rfl
        rw [← h2, ← h3]; rfl
      · rw [HR.out, List.length_set, List.length_map]; exact HL.out.symm
      · have hf4 := hown4.out.fr (k := w.heap.size) (by omega) (by omega)
        refine ⟨hf4.1, fun z hz h0 ad had => ?_⟩
        rcases List.mem_or_eq_of_mem_set hz with hz | rfl
        · exact hf4.2 z hz h0 ad had
        · exact hf4.2 y (List.mem_of_getElem? HY.out) h0 ad had
      · exact (((hbw4.trans (hbY.mono hbw4.size)).setCell (by show _ ≤ fb; omega) _).setCell (by show _ ≤ fb; omega) _).setCell (by simp <;> omega) _
end Go.Proofs.Ytohflngcgmcllaa
