/- A cell written: the reference. -/
import Derived.Test.YtohflngcgmcllaaF
import Derived.Test.YtohflngcgmcllaaD
namespace Go.Proofs.Ytohflngcgmcllaa
open Go.RowKit

theorem refwrite_fin {n i j c4 g f r b0 : Nat} {l : List Ob} {A : Option Addr} {w w4 T : World} {y : Ob} {v : Val} {u : Value} (hs : Hp w w.heap.size A n l) (hw4 : Below w.heap.size w w4) (hrow : w4.ownsRow b0 27 2 (.slice (some ⟨g, 0, none⟩) n c4) n (l.flatMap Ob.cells)) (hT : Below w4.heap.size w4 T)
    (hy : Sl T T.heap.size 2 Val.cells (some ⟨f, 0, none⟩) y.n y.s) (hyA : y.A = some ⟨f, 0, none⟩) (hyn : y.n ≤ 8796093021952) (hf : w4.heap.size ≤ f) (hj : j < y.n) (hi : i < n) (hb0 : w.heap.size ≤ b0) (hr : w.heap.size ≤ r) (hrb : r < b0) :
    Hp (((((T.setCell ⟨f, j * 2, none⟩ (.bool v.ref)).setCell ⟨f, j * 2 + 1, none⟩ (.int .i64 v.n)).setCell ⟨g, i * 2, none⟩ (.int .i64 y.id)).setCell ⟨g, i * 2 + 1, none⟩ (.slice (some ⟨f, 0, none⟩) y.n y.c)).setCell ⟨r, 0, none⟩ u)
      (((((T.setCell ⟨f, j * 2, none⟩ (.bool v.ref)).setCell ⟨f, j * 2 + 1, none⟩ (.int .i64 v.n)).setCell ⟨g, i * 2, none⟩ (.int .i64 y.id)).setCell ⟨g, i * 2 + 1, none⟩ (.slice (some ⟨f, 0, none⟩) y.n y.c)).setCell ⟨r, 0, none⟩ u).heap.size (some ⟨g, 0, none⟩) n (l.set i ⟨y.id, y.A, y.n, y.c, y.s.set j v⟩) := by
  have hz : (((((T.setCell ⟨f, j * 2, none⟩ (.bool v.ref)).setCell ⟨f, j * 2 + 1, none⟩ (.int .i64 v.n)).setCell ⟨g, i * 2, none⟩ (.int .i64 y.id)).setCell ⟨g, i * 2 + 1, none⟩ (.slice (some ⟨f, 0, none⟩) y.n y.c)).setCell ⟨r, 0, none⟩ u).heap.size = T.heap.size := by simp
  have hzT := hT.size
  have hz4 := hw4.size
  have hgb : b0 ≤ g ∧ g < w4.heap.size := hrow.lt g (by simp [Value.ownBlock])
  have hg1 := grown2 T f (j * 2) (j * 2 + 1) (.bool v.ref) (.int .i64 v.n)
  obtain ⟨T1, hT1⟩ : ∃ T1, T1 = (T.setCell ⟨f, j * 2, none⟩ (.bool v.ref)).setCell ⟨f, j * 2 + 1, none⟩ (.int .i64 v.n) := ⟨_, rfl⟩
  rw [← hT1] at hg1
  have hz1 : T1.heap.size = T.heap.size := by rw [hT1]; simp
  have hg2 := grown2 T1 g (i * 2) (i * 2 + 1) (.int .i64 y.id) (.slice (some ⟨f, 0, none⟩) y.n y.c)
  obtain ⟨T2, hT2⟩ : ∃ T2, T2 = (T1.setCell ⟨g, i * 2, none⟩ (.int .i64 y.id)).setCell ⟨g, i * 2 + 1, none⟩ (.slice (some ⟨f, 0, none⟩) y.n y.c) := ⟨_, rfl⟩
  rw [← hT2] at hg2
  have hz2 : T2.heap.size = T.heap.size := by rw [hT2]; simp [hz1]
  have hg3 := grown1 T2 ⟨r, 0, none⟩ u
  have hl := hs.sl.len
  have hrowT : T1.ownsRow b0 27 2 (.slice (some ⟨g, 0, none⟩) n c4) n (l.flatMap Ob.cells) := (own_below hrow hT).kept hg1 (.inr (by intro e; simp [Value.ownBlock] at e; omega))
  have hrow2 : T2.ownsRow b0 27 2 (.slice (some ⟨g, 0, none⟩) n c4) n ((l.set i ⟨y.id, y.A, y.n, y.c, y.s.set j v⟩).flatMap Ob.cells) := by
    rw [hT2]
    exact own_put2 Ob.size hrowT hl hi ⟨y.id, y.A, y.n, y.c, y.s.set j v⟩ _ _ (by show [_, _] = _; rw [hyA])
  rw [hz]
  rw [← hT1, ← hT2]
  refine ⟨((Sl.of_own Ob.size (by rw [List.length_set]; exact hl) hrow2).apart (Nat.le_refl _) hg3 (fun _ ad had e => by injection had with had; subst had; injection e with e; simp only at e; omega)).mono (by omega), fun o ho => ?_⟩
  rcases List.mem_or_eq_of_mem_set ho with hm | rfl
  · obtain ⟨o1, o2⟩ := hs.obs o hm
    refine ⟨?_, o2⟩
    have hb : ∀ ad, 0 < o.n → o.A = some ad → ad.block < w.heap.size := fun ad h0 had => by
      obtain ⟨ab, ao, e, hlt, _⟩ := o1.at_ h0
      rw [had] at e; injection e with e; subst e; exact hlt
    have h1 := (o1.up hw4).up hT
    refine ((h1.apart (Nat.le_refl _) hg1 (fun h0 ad had e => ?_)).apart (by omega) hg2 (fun h0 ad had e => ?_)).apart (by omega) hg3 (fun h0 ad had e => ?_)
    · have := hb ad h0 had; injection e with e; omega
    · have := hb ad h0 had; injection e with e; omega
    · have := hb ad h0 had; injection e with e; simp only at e; omega
  · refine ⟨?_, hyn⟩
    have h2 := hy.put2 Val.size hj v (u := .bool v.ref) (v := .int .i64 v.n) rfl ⟨f, j * 2, none⟩ ⟨f, j * 2 + 1, none⟩ (by rw [Nat.zero_add]) (by rw [Nat.zero_add])
    rw [← hT1] at h2
    show Sl _ _ 2 Val.cells y.A y.n (y.s.set j v)
    rw [hyA]
    exact (h2.apart (by omega) hg2 (fun _ ad had e => by injection had with had; subst had; injection e with e; simp only at e; omega)).apart (by omega) hg3 (fun _ ad had e => by injection had with had; subst had; injection e with e; simp only at e; omega)

set_option maxHeartbeats 4000000 in
theorem refwrite_any (A : Option Addr) (n c : Nat) (l : List Ob) (id f : Int) (v : Val) (w : World) (hs : Hp w w.heap.size A n l) (hn : n ≤ 4398046510976) :
    Calls Try.prog 14 #[.agg #[.slice A n c], .int .i64 id, .int .i64 f, .agg #[.bool v.ref, .int .i64 v.n]] w (GivesRB 0 (wroteL id f v (l.map Ob.po)) (readB id f (l.map Ob.po)) w) := by
  obtain ⟨i0, hi0, hq0, hq1, hq2⟩ := info_parts CloneObj.infoE
  have HL := Lib.hid hs.sl.len
  have HS := Lib.hid hs
  obtain ⟨w2, hw2⟩ : ∃ w2, w2 = ((w.alloc (.cells #[.slice A n c] 24)).alloc (.cells #[.bool v.ref, .int .i64 v.n] 29)).alloc (.cells #[.slice none 0 0] 24) := ⟨_, rfl⟩
  have hb2 : Below w.heap.size w w2 := by rw [hw2]; exact (by repeat (first | (with_reducible exact (Below.refl _ _)) | (with_reducible refine Below.drew ?_) | (with_reducible refine below_drewN ?_ _) | (with_reducible refine Below.setCell ?_ ?_ _; rotate_left; (first | omega | (simp <;> omega))) | (with_reducible refine Below.alloc ?_ ?_ _; rotate_left; (first | omega | (simp <;> omega)))))
  have hz2 : w2.heap.size = w.heap.size + 3 := by rw [hw2]; simp
  have HA := Lib.hid (show w2.cell? ⟨w.heap.size, 0, none⟩ = some (.slice A n c) from by rw [hw2, cell_old _ _ _ _ (by simp <;> omega), cell_old _ _ _ _ (by simp), cell_new _ _ _ _ _ rfl]; rfl)
  have HB0 := Lib.hid (show w2.cell? ⟨w.heap.size + 1, 0, none⟩ = some (.bool v.ref) from by rw [hw2, cell_old _ _ _ _ (by simp), cell_new _ _ _ _ _ (by simp)]; rfl)
  have HB1 := Lib.hid (show w2.cell? ⟨w.heap.size + 1, 1, none⟩ = some (.int .i64 v.n) from by rw [hw2, cell_old _ _ _ _ (by simp), cell_new _ _ _ _ _ (by simp)]; rfl)
  have HD := Lib.hid (show w2.cell? ⟨w.heap.size + 2, 0, none⟩ = some (.slice none 0 0) from by rw [hw2, cell_new _ _ _ _ _ (by simp)]; rfl)
  have HF := Lib.hid (show w2.frozen? ⟨w.heap.size + 2, 0, none⟩ = false from by rw [hw2, frozen_new _ _ _ _ _ (by simp)])
  have HS2 := Lib.hid (hs.up hb2)
  clear hs
  go_enter Try.func14, Try.ntmps14
  go_wp2_with fail
  rw [← hw2]
  have HW := Lib.hid hw2
  clear hw2
  refine (refread_any A n c l id f w2 HS2.out (by omega)).mono ?_
  rintro e w3 ⟨rfl, hb3⟩
  have hz3 := hb3.size
  have e0 : w3.cell? ⟨w.heap.size, 0, none⟩ = some (.slice A n c) := (belc hb3 (by omega)).trans HA.out
  have e3 : w3.cell? ⟨w.heap.size + 2, 0, none⟩ = some (.slice none 0 0) := (belc hb3 (by omega)).trans HD.out
  have f3 : w3.frozen? ⟨w.heap.size + 2, 0, none⟩ = false := (belf hb3 (by omega)).trans HF.out
  have q0 : w.heap.size < w3.heap.size := by omega
  have q1 : w.heap.size + 1 < w3.heap.size := by omega
  have q2 : w.heap.size + 2 < w3.heap.size := by omega
  have hbw3 : Below w.heap.size w w3 := hb2.trans (hb3.mono hb2.size)
  cases hrb : readB id f (l.map Ob.po) with
  | false =>
    have HR := Lib.hid (wrote_no (v := v) hrb)
    have HRB := Lib.hid hrb
    clear hrb
    go_wp2
    refine bodyPost_ret (v := .tuple #[.agg #[.slice none 0 0], .bool false]) (by simp [results, Try.results14, go_sem, e3, World.cell?_alloc_lt, q2]) rfl ?_
    rw [HRB.out]
    refine ⟨none, 0, 0, [], rfl, by rw [HR.out]; rfl, by rw [HR.out]; rfl, Lib.hid Hp.nil, Lib.hid Fr.nil, (by repeat (first | (with_reducible exact hbw3) | (with_reducible refine Below.drew ?_) | (with_reducible refine below_drewN ?_ _) | (with_reducible refine Below.setCell ?_ ?_ _; rotate_left; (first | omega | (simp <;> omega))) | (with_reducible refine Below.alloc ?_ ?_ _; rotate_left; (first | omega | (simp <;> omega)))))⟩
  | true =>
    obtain ⟨i, j, x0, hi, hx0, rfl, hj⟩ := readB_true hrb
    obtain ⟨x, hx, rfl⟩ := po_at' hx0
    have HR := Lib.hid ((wrote_at (v := v) hrb hi).trans (writeO_set hx0))
    have HRB := Lib.hid hrb
    have HI := Lib.hid (show idxI id (l.map Ob.po) = i from by rw [idxI, hi])
    have hin : i < n := by rw [← HL.out]; exact (List.getElem?_eq_some_iff.1 hx).1
    have HX := Lib.hid hx
    have HJ := Lib.hid hj
    clear hrb hi hx0 hx hj
    obtain ⟨W0, hW0⟩ : ∃ W0, W0 = w3.alloc (.cells #[.bool (readD id (j : Int) (l.map Ob.po)).ref, .int .i64 (readD id (j : Int) (l.map Ob.po)).n] 29) := ⟨_, rfl⟩
    have hbW0 : Below w3.heap.size w3 W0 := by rw [hW0]; exact (by repeat (first | (with_reducible exact (Below.refl _ _)) | (with_reducible refine Below.drew ?_) | (with_reducible refine below_drewN ?_ _) | (with_reducible refine Below.setCell ?_ ?_ _; rotate_left; (first | omega | (simp <;> omega))) | (with_reducible refine Below.alloc ?_ ?_ _; rotate_left; (first | omega | (simp <;> omega)))))
    have hzW0 := hbW0.size
    have hb20 : Below w2.heap.size w2 W0 := hb3.trans (hbW0.mono hz3)
    have HSR := Lib.hid ((HS2.out.up hb20).sl.src Ob.size)
    have c0 : W0.cell? ⟨w.heap.size, 0, none⟩ = some (.slice A n c) := (belc hb20 (by omega)).trans HA.out
    have s0 : w.heap.size < W0.heap.size := by omega
    go_wp2_with (at_builtin; rw [← hW0]; refine wpList_append_any rfl _ _ 22 rfl W0.heap.size 27 i0 _ 2 32 Try.underlying22 hi0 hq0 hq1 hq2 rfl (by decide) (.slice none 0 0) 0 [] (by simp [Act.eval]) (World.ownsRow_nil _ _ _ _) A n c (l.flatMap Ob.cells) (by simp [Act.eval]) HSR.out.1 (by rw [flat_len Ob.size, HL.out]) HSR.out.2 (ob_one l) (by unfold maxLen; omega) (by omega) (Nat.le_refl _) ?_; intro A4 c4 w4 hown4 hgr4 hA4; have H4 := Lib.hid hown4; have hb4 : Below W0.heap.size W0 w4 := (Below.refl _ _).grown hgr4 (Nat.le_refl _) (fun k hk => by cases hk); have hz4 := hb4.size; have d0 := (belc hb4 (b := w.heap.size) (o := 0) (by omega)).trans c0; have s1 : w.heap.size < w4.heap.size := (by omega); clear hown4 hgr4 hA4)
    obtain ⟨W1, hW1⟩ : ∃ W1, W1 = w4.alloc (.cells #[.slice A4 n c4] 24) := ⟨_, rfl⟩
    have hbW1 : Below w4.heap.size w4 W1 := by rw [hW1]; exact (by repeat (first | (with_reducible exact (Below.refl _ _)) | (with_reducible refine Below.drew ?_) | (with_reducible refine below_drewN ?_ _) | (with_reducible refine Below.setCell ?_ ?_ _; rotate_left; (first | omega | (simp <;> omega))) | (with_reducible refine Below.alloc ?_ ?_ _; rotate_left; (first | omega | (simp <;> omega)))))
    have hzW1 : W1.heap.size = w4.heap.size + 1 := by rw [hW1]; simp
    have hrow4 := own_eq (Nat.zero_add n) H4.out
    rw [List.nil_append] at hrow4
    obtain ⟨g, hA4, hg0, hg1, hgz⟩ := own_at0 hrow4 (by omega)
    subst hA4
    have hrs := Sl.of_own Ob.size HL.out hrow4
    have HROW := Lib.hid hrow4
    have g0 : w4.cell? ⟨g, i * 2, none⟩ = some (.int .i64 x.id) := by have := sl_at hrs HX.out (j := 0) rfl; rwa [Nat.zero_add] at this
    have g1 : w4.cell? ⟨g, i * 2 + 1, none⟩ = some (.slice x.A x.n x.c) := by have := sl_at hrs HX.out (j := 1) rfl; rwa [Nat.zero_add] at this
    have z0 := hgz (i * 2)
    have z1 := hgz (i * 2 + 1)
    have k4 : W1.cell? ⟨w4.heap.size, 0, none⟩ = some (.slice (some ⟨g, 0, none⟩) n c4) := by rw [hW1, cell_new _ _ _ _ _ rfl]; rfl
    have hb24 : Below w2.heap.size w2 w4 := hb20.trans (hb4.mono hb20.size)
    have hb2W : Below w2.heap.size w2 W1 := hb24.trans (hbW1.mono hb24.size)
    rw [← hW1]
    have HW1 := Lib.hid hW1
    clear hW1 hrow4 hrs hgz c0 d0 e0
    refine (refat_any A n c l id W1 (HS2.out.up hb2W).sl (by omega)).mono ?_
    rintro e w5 ⟨rfl, hb5⟩
    rw [HI.out]
    have hz5 := hb5.size
    have hb25 : Below w2.heap.size w2 w5 := hb2W.trans (hb5.mono hb2W.size)
    have hbw2 : Below w.heap.size w w5 := hb2.trans (hb25.mono hb2.size)
    have a0 : w5.cell? ⟨w.heap.size, 0, none⟩ = some (.slice A n c) := (belc hb25 (by omega)).trans HA.out
    have hsA := HS.out.sl
    obtain ⟨ab, ao, hAe, hlo, hat⟩ := hsA.at_ (by omega)
    subst hAe
    have b0 : w5.cell? ⟨ab, ao + i * 2, none⟩ = some (.int .i64 x.id) := (belc hbw2 hlo).trans (hat i x HX.out 0 _ rfl)
    have b1 : w5.cell? ⟨ab, ao + i * 2 + 1, none⟩ = some (.slice x.A x.n x.c) := (belc hbw2 hlo).trans (hat i x HX.out 1 _ rfl)
    obtain ⟨o1, o2⟩ := HS.out.obs x (List.mem_of_getElem? HX.out)
    have hinI : (i : Int) < (n : Int) := by omega
    clear hat hsA
    go_wp2_with fail
    refine (object_any x w5 (o1.up hbw2) o2).mono ?_
    rintro e w6 ⟨A6, n6, c6, rfl, hown6, hn6, hb6⟩
    have hz6 := hb6.size
    have hxs : x.s.length = x.n := o1.len
    have hjx : j < x.s.length := HJ.out
    have hn6' : n6 = x.s.length := hn6
    obtain ⟨f, hA6, hf0, hf1, hfz⟩ := own_at0 hown6.out (by omega)
    subst hA6
    have hfs := Sl.of_own Val.size hn6.symm hown6.out
    obtain ⟨t, ht⟩ : ∃ t, x.s[j]? = some t := ⟨_, List.getElem?_eq_getElem hjx⟩
    have t0 : w6.cell? ⟨f, j * 2, none⟩ = some (.bool t.ref) := by have := sl_at hfs (i := j) (x := t) ht (j := 0) rfl; rwa [Nat.zero_add] at this
    have t1 : w6.cell? ⟨f, j * 2 + 1, none⟩ = some (.int .i64 t.n) := by have := sl_at hfs (i := j) (x := t) ht (j := 1) rfl; rwa [Nat.zero_add] at this
    have y0 := hfz (j * 2)
    have y1 := hfz (j * 2 + 1)
    have hb26 : Below w2.heap.size w2 w6 := hb25.trans (hb6.mono hb25.size)
    have hbW6 : Below W1.heap.size W1 w6 := hb5.trans (hb6.mono hz5)
    have hb46 : Below w4.heap.size w4 w6 := hbW1.trans (hbW6.mono (by omega))
    have m1 : w6.cell? ⟨w.heap.size + 1, 0, none⟩ = some (.bool v.ref) := (belc hb26 (by omega)).trans HB0.out
    have m2 : w6.cell? ⟨w.heap.size + 1, 1, none⟩ = some (.int .i64 v.n) := (belc hb26 (by omega)).trans HB1.out
    have m3 : w6.cell? ⟨w.heap.size + 2, 0, none⟩ = some (.slice none 0 0) := (belc hb26 (by omega)).trans HD.out
    have m4 : w6.frozen? ⟨w.heap.size + 2, 0, none⟩ = false := (belf hb26 (by omega)).trans HF.out
    have m5 : w6.cell? ⟨w4.heap.size, 0, none⟩ = some (.slice (some ⟨g, 0, none⟩) n c4) := (belc hbW6 (by omega)).trans k4
    have m6 : w6.cell? ⟨g, i * 2, none⟩ = some (.int .i64 x.id) := (belc hb46 hg1).trans g0
    have m7 : w6.cell? ⟨g, i * 2 + 1, none⟩ = some (.slice x.A x.n x.c) := (belc hb46 hg1).trans g1
    have m8 : w6.frozen? ⟨g, i * 2, none⟩ = false := (belf hb46 hg1).trans z0
    have m9 : w6.frozen? ⟨g, i * 2 + 1, none⟩ = false := (belf hb46 hg1).trans z1
    have l1 : w.heap.size + 1 < w6.heap.size := by omega
    have l2 : w.heap.size + 2 < w6.heap.size := by omega
    have l3 : w4.heap.size < w6.heap.size := by omega
    have l4 : g < w6.heap.size := by omega
    have d1 : w.heap.size + 1 ≠ f := by omega
    have d2 : w.heap.size + 2 ≠ f := by omega
    have d3 : w4.heap.size ≠ f := by omega
    have d4 : g ≠ f := by omega
    have d5 : w4.heap.size ≠ g := by omega
    have d6 : w6.heap.size ≠ f := by omega
    have d7 : w6.heap.size ≠ g := by omega
    have d8 : w.heap.size + 2 ≠ g := by omega
    have hjI : (j : Int) < (n6 : Int) := by omega
    have HN6 := Lib.hid hn6'
    have HFS := Lib.hid hfs
    clear k4 g0 g1 z0 z1 a0 b0 b1 hn6 hn6' hfs hfz ht hjx
    go_wp2
    refine bodyPost_ret (v := .tuple #[.agg #[.slice (some ⟨g, 0, none⟩) n c4], .bool true]) (by simp [results, Try.results14, go_sem, m3, World.cell?_alloc_lt, l2]) rfl ?_
    rw [HRB.out]
    have hw4 : Below w.heap.size w w4 := hb2.trans (hb24.mono hb2.size)
    have h64 := HN6.out
    have hfin := (refwrite_fin (T := w6) (y := ⟨x.id, some ⟨f, 0, none⟩, n6, c6, x.s⟩) (j := j) (i := i) (v := v) (r := w.heap.size + 2) (u := .slice (some ⟨g, 0, none⟩) n c4) HS.out hw4 HROW.out hb46 HFS.out rfl (by show n6 ≤ 8796093021952; omega) (by omega) (by show j < n6; omega) hin (by omega) (by omega) (by omega)).up ((Below.refl _ _).alloc (Nat.le_refl _) (.cells #[.int .i64 x.id, .slice (some ⟨f, 0, none⟩) n6 c6] 27))
    refine ⟨_, n, c4, _, rfl, ?_, ?_, Lib.hid hfin, Lib.hid Fr.zero, ?_⟩
    · rw [List.map_set, HR.out]; rfl
    · rw [HR.out, List.length_set, List.length_map]; exact HL.out.symm
    · have hb : Below w.heap.size w w6 := hb2.trans (hb26.mono hb2.size)
      exact (((((hb.setCell (by show _ ≤ f; omega) _).setCell (by show _ ≤ f; omega) _).setCell (by show _ ≤ g; omega) _).setCell (by show _ ≤ g; omega) _).setCell (by simp <;> omega) _).alloc (by simp; omega) _
end Go.Proofs.Ytohflngcgmcllaa
