/- Whether a task can be committed: the program. -/
import Derived.Test.YtfhpniafkkgibaaDoorN
namespace Go.Proofs.YtfhpniafkkgibaaDoor
open Go.RowKit

/-- What the package errors has laid. -/
def ErrT (w : World) : Prop := w.cell? ⟨0, 0, none⟩ = some (.iface 90 (.agg #[.pointer (some ⟨1, 55, none⟩)]))
theorem ErrT.lt {w : World} (h : ErrT w) : 0 < w.heap.size := by
  rcases Nat.eq_zero_or_pos w.heap.size with h0 | h1
  · unfold ErrT at h; simp [World.cell?, h0] at h
  · exact h1
theorem ErrT.below {w w' : World} {B : Nat} (h : ErrT w) (hb : Below B w w') (hB : 0 < B) : ErrT w' := by
  unfold ErrT at h ⊢
  rw [← h]
  exact belc hb hB
theorem as_hit2 (e t : Addr) (old : Value) (w : World) (hg : ErrT w) (ht0 : w.cell? t = some old) (hf0 : w.frozen? t = false) :
    Calls Tryd.prog 13 #[.iface 52 (.pointer (some e)), .iface 57 (.pointer (some t))] w fun ev w' => ev = .returned (.bool true) ∧ w'.cell? t = some (.pointer (some e)) ∧ w.grownBy w' (some t.block) := by
  have htl : t.block < w.heap.size := by
    rcases Nat.lt_or_ge t.block w.heap.size with h | h
    · exact h
    · simp [World.cell?, Array.getElem?_eq_none h] at ht0
  refine (as_hit e t old w hg ht0 hf0).mono ?_
  rintro ev w' ⟨rfl, rfl⟩
  refine ⟨rfl, ?_, ?_⟩
  · refine World.cell?_setCell_same _ _ _ (u := old) ?_
    rw [World.cell?_alloc_lt _ _ t (by simp; omega), World.cell?_alloc_lt _ _ t (by simp; omega), World.cell?_alloc_lt _ _ t (by simp; omega), World.cell?_alloc_lt _ _ t htl]
    exact ht0
  · exact ((((World.grownBy_alloc w _ _).trans (World.grownBy_alloc _ _ _)).trans (World.grownBy_alloc _ _ _)).trans (World.grownBy_alloc _ _ _)).trans (grown1 _ t _)

set_option maxRecDepth 100000 in
set_option maxHeartbeats 2000000 in
theorem Reads_any (A : Option Addr) (n c : Nat) (l : List Ob) (t : Ta) (cs : List Cl) (w : World) (hg : ErrT w) (hs : Hp w w.heap.size A n l) (hn : n ≤ 9000000000000) (hc : Sl w w.heap.size 4 Cl.cells t.rd.A t.rd.n cs) (hm : t.rd.n ≤ 900000) :
    Calls Tryd.prog 6 #[.agg #[.slice A n c], .agg t.cells.toArray] w fun e w' => e = .returned (outR (wrongP (l.map Ob.po) cs)) ∧ Below w.heap.size w w' := by
  have HS := Lib.hid hs
  have HC := Lib.hid hc
  have HG := Lib.hid hg
  have hw0 := hg.lt
  clear hs hc hg
  obtain ⟨W, hW⟩ : ∃ W, W = (((w.alloc (.cells #[.slice A n c] 24)).alloc (.cells t.cells.toArray 34)).alloc (.cells #[.int .i64 0, .int .i64 0, .bool false, .int .i64 0] 42)).alloc (.cells #[.pointer none] 52) := ⟨_, rfl⟩
  have hWb : Below w.heap.size w W := by rw [hW]; exact (by repeat (first | (with_reducible exact (Below.refl _ _)) | (with_reducible refine Below.drew ?_) | (with_reducible refine below_drewN ?_ _) | (with_reducible refine Below.setCell ?_ ?_ _; rotate_left; (first | omega | (simp <;> omega))) | (with_reducible refine Below.alloc ?_ ?_ _; rotate_left; (first | omega | (simp <;> omega)))))
  have hWz : W.heap.size = w.heap.size + 4 := by rw [hW]; simp
  have q2 : W.cell? ⟨w.heap.size, 0, none⟩ = some (.slice A n c) := (by rw [hW, cell_old _ _ _ _ (by simp <;> omega), cell_old _ _ _ _ (by simp <;> omega), cell_old _ _ _ _ (by simp <;> omega), cell_new _ _ _ _ _ (by simp <;> omega)]; rfl)
  have qt : TaAt W (w.heap.size + 1) t := fun j v hv => by rw [hW, cell_old _ _ _ _ (by simp), cell_old _ _ _ _ (by simp), cell_new _ _ _ _ _ (by simp), List.getElem?_toArray, hv]
  have HQ := Lib.hid (show (W.cell? ⟨w.heap.size + 2, 0, none⟩ = some (.int .i64 0) ∧ W.cell? ⟨w.heap.size + 2, 1, none⟩ = some (.int .i64 0) ∧ W.cell? ⟨w.heap.size + 2, 2, none⟩ = some (.bool false) ∧ W.cell? ⟨w.heap.size + 2, 3, none⟩ = some (.int .i64 0) ∧ ∀ j, W.frozen? ⟨w.heap.size + 2, j, none⟩ = false) ∧ W.cell? ⟨w.heap.size + 3, 0, none⟩ = some (.pointer none) ∧ W.frozen? ⟨w.heap.size + 3, 0, none⟩ = false from ⟨⟨(by rw [hW, cell_old _ _ _ _ (by simp <;> omega), cell_new _ _ _ _ _ (by simp <;> omega)]; rfl), (by rw [hW, cell_old _ _ _ _ (by simp <;> omega), cell_new _ _ _ _ _ (by simp <;> omega)]; rfl), (by rw [hW, cell_old _ _ _ _ (by simp <;> omega), cell_new _ _ _ _ _ (by simp <;> omega)]; rfl), (by rw [hW, cell_old _ _ _ _ (by simp <;> omega), cell_new _ _ _ _ _ (by simp <;> omega)]; rfl), fun j => (by rw [hW, frozen_old _ _ _ _ (by simp <;> omega), frozen_new _ _ _ _ _ (by simp <;> omega)])⟩, (by rw [hW, cell_new _ _ _ _ _ (by simp <;> omega)]; rfl), (by rw [hW, frozen_new _ _ _ _ _ (by simp <;> omega)])⟩)
  have HT := Lib.hid qt
  have HB := Lib.hid hWb
  have HZ := Lib.hid hWz
  clear qt hWb hWz
  go_enter Tryd.func6, Tryd.ntmps6
  go_upto_region 2 with fail
  rw [← hW]
  clear hW
  go_wp2_with (first | (with_reducible refine wpList_load_ta rfl (.tmp 3) rfl (by simp [Act.eval, Act.put]) HT.out ?_))
  refine (reads_any A n c l t t.rd.n rfl cs W (HS.out.up HB.out) hn (HC.out.up HB.out) hm).mono ?_
  rintro e w1 ⟨⟨v, rfl, hv⟩, hb1⟩
  have HB1 := Lib.hid (HB.out.trans (hb1.mono HB.out.size))
  have hz := HZ.out
  have hz1 := hb1.size
  have q40 := (belc hb1 (b := w.heap.size + 2) (o := 0) (by omega)).trans HQ.out.1.1
  have q41 := (belc hb1 (b := w.heap.size + 2) (o := 1) (by omega)).trans HQ.out.1.2.1
  have q42 := (belc hb1 (b := w.heap.size + 2) (o := 2) (by omega)).trans HQ.out.1.2.2.1
  have q43 := (belc hb1 (b := w.heap.size + 2) (o := 3) (by omega)).trans HQ.out.1.2.2.2.1
  have q4f := fun j => (belf hb1 (b := w.heap.size + 2) (o := j) (by omega)).trans (HQ.out.1.2.2.2.2 j)
  have q6 := (belc hb1 (b := w.heap.size + 3) (o := 0) (by omega)).trans HQ.out.2.1
  have q6f := (belf hb1 (b := w.heap.size + 3) (o := 0) (by omega)).trans HQ.out.2.2
  have HG1 := Lib.hid (HG.out.below HB1.out hw0)
  clear hb1 q2
  cases hwr : wrongP (l.map Ob.po) cs with
  | none =>
    rw [hwr] at hv
    obtain rfl : v = .nilIface := hv
    have HWR := Lib.hid hwr
    clear hwr
    go_wp2_with fail
    refine (as_nil _ w1).mono ?_
    rintro e w2 ⟨rfl, rfl⟩
    go_wp2
    refine bodyPost_ret (v := .tuple #[.agg #[.int .i64 0, .int .i64 0, .bool false, .int .i64 0], .bool true]) (by simp [results, Tryd.results6, go_sem, q40, q41, q42, q43]) rfl ⟨by rw [HWR.out]; rfl, (by repeat (first | (with_reducible exact HB1.out) | (with_reducible refine Below.drew ?_) | (with_reducible refine below_drewN ?_ _) | (with_reducible refine Below.setCell ?_ ?_ _; rotate_left; (first | omega | (simp <;> omega))) | (with_reducible refine Below.alloc ?_ ?_ _; rotate_left; (first | omega | (simp <;> omega)))))⟩
  | some x =>
    rw [hwr] at hv
    obtain ⟨g, rfl, hg1, hg2, g0, g1, g2, g3⟩ := hv
    have HWR := Lib.hid hwr
    clear hwr
    go_wp2_with fail
    refine (as_hit2 ⟨g, 0, none⟩ ⟨w.heap.size + 3, 0, none⟩ _ w1 HG1.out q6 q6f).mono ?_
    rintro e w2 ⟨rfl, h6, hgr⟩
    have HB2 := Lib.hid (HB1.out.grown hgr HB1.out.size (fun k hk => by cases hk; show w.heap.size ≤ w.heap.size + 3; omega))
    have hz2 := hgr.size
    have gc := gcell hgr
    have e40 := (gc.1 (w.heap.size + 2) 0 (by omega) (by simp)).trans q40
    have e41 := (gc.1 (w.heap.size + 2) 1 (by omega) (by simp)).trans q41
    have e42 := (gc.1 (w.heap.size + 2) 2 (by omega) (by simp)).trans q42
    have e43 := (gc.1 (w.heap.size + 2) 3 (by omega) (by simp)).trans q43
    have e4f := fun j => (gc.2 (w.heap.size + 2) j (by omega) (by simp)).trans (q4f j)
    have k0 := (gc.1 g 0 (by omega) (by simp; omega)).trans g0
    have k1 := (gc.1 g 1 (by omega) (by simp; omega)).trans g1
    have k2 := (gc.1 g 2 (by omega) (by simp; omega)).trans g2
    have k3 := (gc.1 g 3 (by omega) (by simp; omega)).trans g3
    clear gc hgr g0 g1 g2 g3 q40 q41 q42 q43 q4f q6 q6f
    go_wp2
    refine bodyPost_ret (v := .tuple #[.agg #[.int .i64 x.id, .int .i64 x.field, .bool x.ref, .int .i64 x.n], .bool false]) (by simp [results, Tryd.results6, go_sem, e40, e41, e42, e43]) rfl ⟨by rw [HWR.out]; rfl, (by repeat (first | (with_reducible exact HB2.out) | (with_reducible refine Below.drew ?_) | (with_reducible refine below_drewN ?_ _) | (with_reducible refine Below.setCell ?_ ?_ _; rotate_left; (first | omega | (simp <;> omega))) | (with_reducible refine Below.alloc ?_ ?_ _; rotate_left; (first | omega | (simp <;> omega)))))⟩

set_option maxRecDepth 100000 in
set_option maxHeartbeats 2000000 in
theorem check_any (A : Option Addr) (n c : Nat) (l : List Ob) (t : Ta) (rs ws : List Cl) (ds : List Dl) (ns : List Ob) (w : World) (hg : ErrT w) (hs : Hp w w.heap.size A n l) (hn : n ≤ 9000000000000)
    (hr : Sl w w.heap.size 4 Cl.cells t.rd.A t.rd.n rs) (hm : t.rd.n ≤ 900000) (hd : Sl w w.heap.size 5 Dl.cells t.dl.A t.dl.n ds) (hdm : t.dl.n ≤ 900000)
    (hw : Sl w w.heap.size 4 Cl.cells t.wt.A t.wt.n ws) (hwm : t.wt.n ≤ 900000) (hq : Sl w w.heap.size 2 Ob.cells t.nw.A t.nw.n ns) (hqm : t.nw.n ≤ 900000) :
    Calls Tryd.prog 8 #[.agg #[.slice A n c], .agg t.cells.toArray] w fun e w' => e = .returned (.int .i64 (codeE (allP (l.map Ob.po) t.status rs ds ws ns))) ∧ Below w.heap.size w w' := by
  have HS := Lib.hid hs
  have HR := Lib.hid hr
  have HD := Lib.hid hd
  have HW := Lib.hid hw
  have HN := Lib.hid hq
  have HG := Lib.hid hg
  have hw0 := hg.lt
  clear hs hr hd hw hq hg
  obtain ⟨W, hW⟩ : ∃ W, W = (w.alloc (.cells #[.slice A n c] 24)).alloc (.cells t.cells.toArray 34) := ⟨_, rfl⟩
  have hWb : Below w.heap.size w W := by rw [hW]; exact (by repeat (first | (with_reducible exact (Below.refl _ _)) | (with_reducible refine Below.drew ?_) | (with_reducible refine below_drewN ?_ _) | (with_reducible refine Below.setCell ?_ ?_ _; rotate_left; (first | omega | (simp <;> omega))) | (with_reducible refine Below.alloc ?_ ?_ _; rotate_left; (first | omega | (simp <;> omega)))))
  have hWz : W.heap.size = w.heap.size + 2 := by rw [hW]; simp
  have q2 : W.cell? ⟨w.heap.size, 0, none⟩ = some (.slice A n c) := (by rw [hW, cell_old _ _ _ _ (by simp <;> omega), cell_new _ _ _ _ _ (by simp <;> omega)]; rfl)
  have qt : TaAt W (w.heap.size + 1) t := fun j v hv => by rw [hW, cell_new _ _ _ _ _ (by simp), List.getElem?_toArray, hv]
  have HT := Lib.hid qt
  have HB := Lib.hid hWb
  have HZ := Lib.hid hWz
  clear qt hWb hWz
  obtain ⟨o, ho⟩ : ∃ o, o = allP (l.map Ob.po) t.status rs ds ws ns := ⟨_, rfl⟩
  rw [← ho]
  have HO := Lib.hid ho
  clear ho
  go_enter Tryd.func8, Tryd.ntmps8
  go_upto_region 1 with fail
  rw [← hW]
  clear hW
  go_wp2_with (first | (with_reducible refine wpList_load_ta rfl (.tmp 3) rfl (by simp [Act.eval, Act.put]) HT.out ?_))
  refine (all_any A n c l t rs ws ds ns W (HS.out.up HB.out) hn (HR.out.up HB.out) hm (HD.out.up HB.out) hdm (HW.out.up HB.out) hwm (HN.out.up HB.out) hqm).mono ?_
  rintro e w1 ⟨⟨v, rfl, hv⟩, hb1⟩
  have HB1 := Lib.hid (HB.out.trans (hb1.mono HB.out.size))
  obtain ⟨U, hU⟩ : ∃ U, U = w1.alloc (.cells #[.pointer none] 52) := ⟨_, rfl⟩
  have hbU : Below w1.heap.size w1 U := by rw [hU]; exact (Below.refl _ _).alloc (Nat.le_refl _) _
  have HBU := Lib.hid (HB1.out.trans (hbU.mono HB1.out.size))
  have HGU := Lib.hid (HG.out.below HBU.out hw0)
  have q6 : U.cell? ⟨w1.heap.size, 0, none⟩ = some (.pointer none) := (by rw [hU, cell_new _ _ _ _ _ (by simp <;> omega)]; rfl)
  have q6f : U.frozen? ⟨w1.heap.size, 0, none⟩ = false := (by rw [hU, frozen_new _ _ _ _ _ (by simp <;> omega)])
  rw [← HO.out] at hv
  clear hb1 hbU q2
  cases o with
  | ok =>
    obtain rfl : v = .nilIface := hv
    go_wp2
    refine bodyPost_ret (v := .int .i64 0) (by simp [results, Tryd.results8, go_sem]) rfl ⟨rfl, HB1.out.alloc HB1.out.size _⟩
  | state =>
    obtain rfl : v = .iface 62 (.string sState) := hv
    go_upto_region 5 with fail
    rw [← hU]
    clear hU
    go_wp2_with fail
    refine (is_same U).mono ?_
    rintro e w2 ⟨rfl, rfl⟩
    go_wp2
    refine bodyPost_ret (v := .int .i64 7) (by simp [results, Tryd.results8, go_sem]) rfl ⟨rfl, HBU.out⟩
  | write =>
    obtain rfl : v = .iface 62 (.string sWrite) := hv
    go_upto_region 5 with fail
    rw [← hU]
    clear hU
    go_wp2_with fail
    refine (is_write U).mono ?_
    rintro e w2 ⟨rfl, rfl⟩
    go_wp2_with fail
    refine (as_other sWrite ⟨w1.heap.size, 0, none⟩ w2 HGU.out).mono ?_
    rintro e w3 ⟨rfl, hb3⟩
    have HB3 := Lib.hid (HBU.out.trans (hb3.mono HBU.out.size))
    clear hb3
    go_wp2
    refine bodyPost_ret (v := .int .i64 9) (by simp [results, Tryd.results8, go_sem]) rfl ⟨rfl, HB3.out⟩
  | wrong =>
    obtain ⟨g, rfl⟩ := hv
    go_upto_region 5 with fail
    rw [← hU]
    clear hU
    go_wp2_with fail
    refine (is_wrong ⟨g, 0, none⟩ U).mono ?_
    rintro e w2 ⟨rfl, rfl⟩
    go_wp2_with fail
    refine (as_hit2 ⟨g, 0, none⟩ ⟨w1.heap.size, 0, none⟩ _ w2 HGU.out q6 q6f).mono ?_
    rintro e w3 ⟨rfl, _, hgr⟩
    have HB3 := Lib.hid (HBU.out.grown hgr HBU.out.size (fun k hk => by cases hk; exact HB1.out.size))
    clear hgr
    go_wp2
    refine bodyPost_ret (v := .int .i64 14) (by simp [results, Tryd.results8, go_sem]) rfl ⟨rfl, HB3.out⟩
end Go.Proofs.YtfhpniafkkgibaaDoor
