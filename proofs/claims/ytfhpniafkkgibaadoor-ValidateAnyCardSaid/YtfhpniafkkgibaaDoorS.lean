/- ValidateAny, walked. -/
import Derived.Test.YtfhpniafkkgibaaDoorR
namespace Go.Proofs.YtfhpniafkkgibaaDoor
open Go.RowKit

def row48 (w : World) (b : Nat) : Array Value := ((List.range 48).map fun j => (w.cell? ⟨b, j, none⟩).getD undef).toArray
def row48V (w : World) : Value → Array Value
  | .pointer (some ⟨b, _, none⟩) => row48 w b
  | _ => #[]
def There48 (w : World) (v : Value) : Prop := ∃ (b : Nat) (t : Ta), v = .pointer (some ⟨b, 0, none⟩) ∧ TaAt w b t
theorem row48_at {w : World} {b : Nat} {t : Ta} (h : TaAt w b t) : row48 w b = t.cells.toArray := by
  unfold row48
  congr 1
  apply List.ext_getElem?
  intro j
  by_cases hj : j < 48
  · have hc : t.cells[j]? = some (t.cells[j]'(by rw [t.size]; exact hj)) := List.getElem?_eq_getElem (by rw [t.size]; exact hj)
    rw [List.getElem?_map, List.getElem?_range hj, hc, Option.map_some, h j _ hc]
    rfl
  · rw [List.getElem?_eq_none (by simp; omega), List.getElem?_eq_none (by rw [t.size]; omega)]
theorem exec48 (ρ : Operand → Value) (x : Operand) (d : Option Nat) (ty : TypeId) (pos : String) (af : Array Edge) (gd : Option (Nat × Bool)) (w : World) (h : There48 w (ρ x)) :
    Sem.run Tryd.prog (execOp ρ { dst := d, op := .load 34 x, type := ty, pos := pos, after := af, guard := gd }) w = .ok (.value (.agg (row48V w (ρ x)))) w := by
  obtain ⟨b, t, hv, ht⟩ := h
  have h1 := run_loadAt_mid (P := Tryd.prog) w b 0 _ t.cells _ (fun j v hv => by rw [Nat.zero_add]; exact ht j v hv) Tryd.underlying34 rfl (by rw [t.size]; exact ta_agg)
  unfold execOp
  simp only [hv, Sem.run_bind, h1, Result.andThen_ok, Sem.run_pure, row48V, row48_at ht]
attribute [local go_sem ↓] exec48
/-- A task that can be looked at, in the second box. -/
structure Tl (w wx : World) (A : Option Addr) (n c : Nat) (t : Ta) (rs ws : List Cl) (ds : List Dl) (ns : List Ob) : Prop where
  box : Bx wx (w.heap.size + 1) t.cells
  h : wx.cell? ⟨w.heap.size, 0, none⟩ = some (.slice A n c)
  rd : Sl wx wx.heap.size 4 Cl.cells t.rd.A t.rd.n rs
  wt : Sl wx wx.heap.size 4 Cl.cells t.wt.A t.wt.n ws
  dl : Sl wx wx.heap.size 5 Dl.cells t.dl.A t.dl.n ds
  nw : Sl wx wx.heap.size 2 Ob.cells t.nw.A t.nw.n ns
  rn : t.rd.n ≤ 60
  wn : t.wt.n ≤ 60
  dn : t.dl.n ≤ 60
  nn : t.nw.n ≤ 60
  wwf : ∀ x ∈ ws, (Lit.int .i64 x.id).wf = true
  nwf : ∀ x ∈ ns, (Lit.int .i64 x.id).wf = true
  below : Below w.heap.size w wx
def setSt (t : Ta) (st : Int) : Ta where
  status := st
  gs := t.gs
  rd := t.rd
  wt := t.wt
  nw := t.nw
  dl := t.dl
  ac := t.ac
  cells := t.cells.set 42 (.int .i64 st)
  size := by simp [t.size]
  one := one_set t.one 42 rfl
  c36 := by simpa using t.c36
  c37 := by simpa using t.c37
  c38 := by simpa using t.c38
  c39 := by simpa using t.c39
  c40 := by simpa using t.c40
  c41 := by simpa using t.c41
  c42 := by simp [t.size]

theorem Tl.up {w wr wx : World} {A : Option Addr} {n c : Nat} {t : Ta} {rs ws : List Cl} {ds : List Dl} {ns : List Ob} (h : Tl w wr A n c t rs ws ds ns) (hb : Below wr.heap.size wr wx) : Tl w wx A n c t rs ws ds ns := by
  have h1 := h.box.lt
  exact ⟨h.box.below hb h1, (belc hb (by omega)).trans h.h, h.rd.up hb, h.wt.up hb, h.dl.up hb, h.nw.up hb, h.rn, h.wn, h.dn, h.nn, h.wwf, h.nwf, h.below.trans (hb.mono h.below.size)⟩
theorem outR_form (o : Option Cl) : ∃ (i f : Int) (b : Bool) (m : Int) (k : Bool), outR o = .tuple #[.agg #[.int .i64 i, .int .i64 f, .bool b, .int .i64 m], .bool k] := by
  cases o with
  | none => exact ⟨0, 0, false, 0, true, rfl⟩
  | some x => exact ⟨x.id, x.field, x.ref, x.n, false, rfl⟩
theorem flat_setj {α : Type} {cells : α → List Value} {sz : Nat} (hsz : ∀ x, (cells x).length = sz) (x x' : α) (j : Nat) (u : Value) (hj : j < sz) (hx' : cells x' = (cells x).set j u) : ∀ (l : List α) (k : Nat), l[k]? = some x → (l.flatMap cells).set (k * sz + j) u = (l.set k x').flatMap cells
  | [], k, h => by simp at h
  | z :: l, 0, h => by
    simp at h; subst h
    rw [List.flatMap_cons, Nat.zero_mul, Nat.zero_add, List.set_append, if_pos (by rw [hsz]; exact hj), List.set_cons_zero, List.flatMap_cons, hx']
  | z :: l, k + 1, h => by
    have ih := flat_setj hsz x x' j u hj hx' l k (by simpa using h)
    have hz : (cells z).length = sz := hsz z
    have e : (k + 1) * sz = k * sz + sz := Nat.succ_mul k sz
    rw [List.flatMap_cons, List.set_cons_succ, List.flatMap_cons, List.set_append, if_neg (by omega), hz, show (k + 1) * sz + j - sz = k * sz + j from by omega, ih]
/-- In the loop: the reads lie in a row of their own. -/
structure Lp (w wr : World) (A : Option Addr) (n c : Nat) (t : Ta) (rs ws : List Cl) (ds : List Dl) (ns : List Ob) (base : Nat) : Prop where
  box : Bx wr (w.heap.size + 1) t.cells
  h : wr.cell? ⟨w.heap.size, 0, none⟩ = some (.slice A n c)
  lo : w.heap.size + 2 ≤ base
  rd : wr.ownsRow (w.heap.size + 2) 42 4 t.rd.v t.rd.n (rs.flatMap Cl.cells)
  rl : rs.length = t.rd.n
  rlt : ∀ k, t.rd.v.ownBlock = some k → k < base
  wt : Sl wr wr.heap.size 4 Cl.cells t.wt.A t.wt.n ws
  wlo : ∀ ad, t.wt.A = some ad → base ≤ ad.block
  dl : Sl wr wr.heap.size 5 Dl.cells t.dl.A t.dl.n ds
  dlo : ∀ ad, t.dl.A = some ad → base ≤ ad.block
  nw : Sl wr wr.heap.size 2 Ob.cells t.nw.A t.nw.n ns
  nlo : ∀ ad, t.nw.A = some ad → base ≤ ad.block
  rn : t.rd.n ≤ 60
  wn : t.wt.n ≤ 60
  dn : t.dl.n ≤ 60
  nn : t.nw.n ≤ 60
  wwf : ∀ x ∈ ws, (Lit.int .i64 x.id).wf = true
  nwf : ∀ x ∈ ns, (Lit.int .i64 x.id).wf = true
  below : Below w.heap.size w wr
theorem Lp.tl {w wr : World} {A : Option Addr} {n c base : Nat} {t : Ta} {rs ws : List Cl} {ds : List Dl} {ns : List Ob} (h : Lp w wr A n c t rs ws ds ns base) : Tl w wr A n c t rs ws ds ns :=
  ⟨h.box, h.h, Sl.of_own Cl.size h.rl h.rd, h.wt, h.dl, h.nw, h.rn, h.wn, h.dn, h.nn, h.wwf, h.nwf, h.below⟩
theorem Lp.up {w wr wx : World} {A : Option Addr} {n c base : Nat} {t : Ta} {rs ws : List Cl} {ds : List Dl} {ns : List Ob} (h : Lp w wr A n c t rs ws ds ns base) (hb : Below wr.heap.size wr wx) : Lp w wx A n c t rs ws ds ns base := by
  have h1 := h.box.lt
  exact ⟨h.box.below hb h1, (belc hb (by omega)).trans h.h, h.lo, own_below h.rd hb, h.rl, h.rlt, h.wt.up hb, h.wlo, h.dl.up hb, h.dlo, h.nw.up hb, h.nlo, h.rn, h.wn, h.dn, h.nn, h.wwf, h.nwf, h.below.trans (hb.mono h.below.size)⟩
theorem Lp.put {w wr : World} {A : Option Addr} {n c base g k j : Nat} {t : Ta} {rs ws : List Cl} {ds : List Dl} {ns : List Ob} (h : Lp w wr A n c t rs ws ds ns base) (hA : t.rd.A = some ⟨g, 0, none⟩) (hg : g < base) (hg0 : w.heap.size + 2 ≤ g) {x : Cl} (x' : Cl) (u : Value) (hx : rs[k]? = some x) (hj : j < 4) (hx' : x'.cells = x.cells.set j u) :
    Lp w (wr.setCell ⟨g, k * 4 + j, none⟩ u) A n c t (rs.set k x') ws ds ns base := by
  have h1 := h.box.lt
  have hgr := grown1 wr ⟨g, k * 4 + j, none⟩ u
  refine ⟨h.box.far (by show g ≠ _; omega) _, (World.cell?_setCell_far _ _ _ _ (by show g ≠ w.heap.size; omega)).trans h.h, h.lo, ?_, by rw [List.length_set]; exact h.rl, h.rlt, ?_, h.wlo, ?_, h.dlo, ?_, h.nlo, h.rn, h.wn, h.dn, h.nn, h.wwf, h.nwf, h.below.setCell (by show _ ≤ g; omega) _⟩
  · rw [← flat_setj Cl.size x x' j u hj hx' rs k hx]
    have := h.rd
    unfold Sc.v at this ⊢
    rw [hA] at this ⊢
    exact (this.stored _ _).1
  · exact (h.wt.apart (Nat.le_refl _) hgr (fun _ ad had e => by have := h.wlo ad had; injection e with e; have e : ad.block = g := e; omega)).mono hgr.size
  · exact (h.dl.apart (Nat.le_refl _) hgr (fun _ ad had e => by have := h.dlo ad had; injection e with e; have e : ad.block = g := e; omega)).mono hgr.size
  · exact (h.nw.apart (Nat.le_refl _) hgr (fun _ ad had e => by have := h.nlo ad had; injection e with e; have e : ad.block = g := e; omega)).mono hgr.size

theorem lp_mk {w X w2 : World} {A : Option Addr} {n c base : Nat} {t t' : Ta} {rs ws : List Cl} {ds : List Dl} {ns ns' : List Ob} {cs : List Value} (T : Tl w X A n c t rs ws ds ns) (hX : w.heap.size + 2 ≤ X.heap.size) (K : Kept X w2 t t' rs ws ds ns' base) (hb : Bx w2 (w.heap.size + 1) cs) (hn : ∀ x ∈ ns', (Lit.int .i64 x.id).wf = true) :
    Lp w (w2.setCells (w.heap.size + 1) 0 t'.cells) A n c t' rs ws ds ns' base := by
  have hgr := grown_setCells (w.heap.size + 1) t'.cells 0 w2
  have hz := size_setCells_ (w.heap.size + 1) t'.cells 0 w2
  have hk := K.hbase
  have hz2 := K.below.size
  have h := (belc K.below (b := w.heap.size) (o := 0) (by omega)).trans T.h
  have own : ∀ {v : Value} {m : Nat} {xs : List Value}, w2.ownsRow X.heap.size 42 4 v m xs → (w2.setCells (w.heap.size + 1) 0 t'.cells).ownsRow (w.heap.size + 2) 42 4 v m xs := fun ho => own_mono (ho.kept hgr (.inr (fun e => by have := (ho.lt _ e).1; omega))) hX
  refine ⟨hb.all t'.cells t'.size, ((gcell hgr).1 w.heap.size 0 (by omega) (by simp)).trans h, by omega, own K.rd, by rw [K.rn]; exact T.rd.len, K.rlt, ?_, K.wlo, ?_, K.dlo, ?_, K.nlo, by rw [K.rn]; exact T.rn, by rw [K.wn]; exact T.wn, by rw [K.dn]; exact T.dn, by rw [K.nn]; exact T.nn, T.wwf, hn, ?_⟩
  · exact (K.wt.apart (Nat.le_refl _) hgr (fun _ ad had e => by have := K.wlo ad had; injection e with e; omega)).mono hgr.size
  · exact (K.dl.apart (Nat.le_refl _) hgr (fun _ ad had e => by have := K.dlo ad had; injection e with e; omega)).mono hgr.size
  · exact (K.nw.apart (Nat.le_refl _) hgr (fun _ ad had e => by have := K.nlo ad had; injection e with e; omega)).mono hgr.size
  · have b2 := T.below.trans (K.below.mono T.below.size)
    exact b2.grown hgr b2.size (fun k hk => by cases hk; omega)
theorem ids_wf {ns ns' : List Ob} (h : ns'.map Ob.po = ns.map Ob.po) (hw : ∀ x ∈ ns, (Lit.int .i64 x.id).wf = true) : ∀ x ∈ ns', (Lit.int .i64 x.id).wf = true := by
  intro x hx
  have h1 : x.po ∈ ns.map Ob.po := by rw [← h]; exact List.mem_map.2 ⟨x, hx, rfl⟩
  obtain ⟨y, hy, e⟩ := List.mem_map.1 h1
  have e : y.id = x.id := congrArg PO.id e
  rw [← e]
  exact hw y hy

theorem grown_drew {w w' : World} {r : Option Nat} (h : w.grownBy w' r) : w.grownBy w'.drew r := ⟨h.os, h.tape, h.output, h.size, h.block⟩
theorem ridx (z : Int) (n : Nat) (h0 : 0 < n) (hn : n ≤ 9223372036854775807) : ∃ q : Nat, wrap64 ((IntKind.u64.wrap z).tmod (n : Int)) = (q : Int) ∧ q < n := by
  have h1 : 0 ≤ IntKind.u64.wrap z := by rw [IntKind.wrap_u64]; omega
  have h2 := Int.tmod_nonneg (n : Int) h1
  have h3 := Int.tmod_lt_of_pos (IntKind.u64.wrap z) (b := (n : Int)) (by omega)
  refine ⟨((IntKind.u64.wrap z).tmod n).toNat, ?_, by omega⟩
  simp only [wrap64]
  omega

set_option maxRecDepth 100000 in
set_option maxHeartbeats 8000000 in
theorem any_law (A : Option Addr) (n c : Nat) (l : List Ob) (t : Ta) (gl rs ws : List Cl) (ds : List Dl) (ns : List Ob) (al : List Ac) (nr : Int) (near : Bool) (w : World) (hg : ErrT w) (hs : Hp w w.heap.size A n l) (hn : n ≤ 4398046510976)
    (hgs : Sl w w.heap.size 4 Cl.cells t.gs.A t.gs.n gl) (hgm : t.gs.n ≤ 4398046510976) (hr : Sl w w.heap.size 4 Cl.cells t.rd.A t.rd.n rs) (hm : t.rd.n ≤ 4398046510976) (hd : Sl w w.heap.size 5 Dl.cells t.dl.A t.dl.n ds) (hdm : t.dl.n ≤ 4398046510976)
    (hw : Sl w w.heap.size 4 Cl.cells t.wt.A t.wt.n ws) (hwm : t.wt.n ≤ 4398046510976) (hq : Hp w w.heap.size t.nw.A t.nw.n ns) (hqm : t.nw.n ≤ 4398046510976) (ha : Sl w w.heap.size 3 Ac.cells t.ac.A t.ac.n al) (ham : t.ac.n ≤ 5864062014634)
    (hnw : ∀ x ∈ ns, (Lit.int .i64 x.id).wf = true) (hwt : ∀ x ∈ ws, (Lit.int .i64 x.id).wf = true) (hnr : 0 ≤ nr ∧ nr ≤ 255) :
    Calls Tryd.prog 3 #[.agg #[.slice A n c], .agg t.cells.toArray, .int .u8 nr, .bool near] w fun e w' => e = .returned (.bool true) ∧ Below w.heap.size w w' := by
  have HS := Lib.hid hs
  have HGS := Lib.hid hgs
  have HR := Lib.hid hr
  have HD := Lib.hid hd
  have HW := Lib.hid hw
  have HN := Lib.hid hq
  have HA := Lib.hid ha
  have HG := Lib.hid hg
  have HNW := Lib.hid hnw
  have HWT := Lib.hid hwt
  have hw0 := hg.lt
  clear hs hgs hr hd hw hq ha hg hnw hwt
  obtain ⟨W, hW⟩ : ∃ W, W = (w.alloc (.cells #[.slice A n c] 24)).alloc (.cells t.cells.toArray 34) := ⟨_, rfl⟩
  have hWb : Below w.heap.size w W := by rw [hW]; exact (by repeat (first | (with_reducible exact (Below.refl _ _)) | (with_reducible refine Below.drew ?_) | (with_reducible refine below_drewN ?_ _) | (with_reducible refine Below.setCell ?_ ?_ _; rotate_left; (first | omega | (simp <;> omega))) | (with_reducible refine Below.alloc ?_ ?_ _; rotate_left; (first | omega | (simp <;> omega)))))
  have hWz : W.heap.size = w.heap.size + 2 := by rw [hW]; simp
  have HQ := Lib.hid (show W.cell? ⟨w.heap.size, 0, none⟩ = some (.slice A n c) from (by rw [hW, cell_old _ _ _ _ (by simp <;> omega), cell_new _ _ _ _ _ (by simp <;> omega)]; rfl))
  have HX := Lib.hid (show Bx W (w.heap.size + 1) t.cells from ⟨t.size, fun j v hv => by rw [hW, cell_new _ _ _ _ _ (by simp), List.getElem?_toArray, hv], fun j => (by rw [hW, frozen_new _ _ _ _ _ (by simp <;> omega)])⟩)
  have HB := Lib.hid hWb
  have HZ := Lib.hid hWz
  clear hWb hWz
  go_enter Tryd.func3, Tryd.ntmps3
  go_upto_region 1 with fail
  rw [← hW]
  clear hW
  go_wp2_with fail
  refine (sane_any W (HG.out.below HB.out hw0)).mono ?_
  rintro e w1 ⟨rfl, hb1⟩
  have HB1 := Lib.hid (HB.out.trans (hb1.mono HB.out.size))
  have hz := HZ.out
  have hz1 := hb1.size
  have HX1 := Lib.hid (HX.out.below hb1 (by omega))
  have q0 := (belc hb1 (b := w.heap.size) (o := 0) (by omega)).trans HQ.out
  have q37 : w1.cell? ⟨w.heap.size + 1, 37, none⟩ = some (.slice t.rd.A t.rd.n t.rd.c) := HX1.out.2.1 37 _ t.c37
  have q38 : w1.cell? ⟨w.heap.size + 1, 38, none⟩ = some (.slice t.wt.A t.wt.n t.wt.c) := HX1.out.2.1 38 _ t.c38
  have q39 : w1.cell? ⟨w.heap.size + 1, 39, none⟩ = some (.slice t.nw.A t.nw.n t.nw.c) := HX1.out.2.1 39 _ t.c39
  have q40 : w1.cell? ⟨w.heap.size + 1, 40, none⟩ = some (.slice t.dl.A t.dl.n t.dl.c) := HX1.out.2.1 40 _ t.c40
  have q42 := HX1.out.2.1 42 _ t.c42
  have f42 := HX1.out.2.2 42
  have hl0 : w.heap.size < w1.heap.size := by omega
  have hl1 : w.heap.size + 1 < w1.heap.size := by omega
  clear hb1 hz hz1
  by_cases hn20 : (20 : Int) < n
  · go_wp2
    go_ret
    exact ⟨rfl, HB1.out⟩
  · have e1 : IntKind.i64.wrap ((t.rd.n : Int) + t.wt.n) = (t.rd.n : Int) + t.wt.n := by rw [IntKind.wrap_i64]; omega
    have e2 : IntKind.i64.wrap ((t.rd.n : Int) + t.wt.n + t.dl.n) = (t.rd.n : Int) + t.wt.n + t.dl.n := by rw [IntKind.wrap_i64]; omega
    have e3 : IntKind.i64.wrap ((t.rd.n : Int) + t.wt.n + t.dl.n + t.nw.n) = (t.rd.n : Int) + t.wt.n + t.dl.n + t.nw.n := by rw [IntKind.wrap_i64]; omega
    by_cases h60 : (60 : Int) < (t.rd.n : Int) + t.wt.n + t.dl.n + t.nw.n
    · go_wp2
      go_ret
      exact ⟨rfl, HB1.out⟩
    · go_upto_if 43 with fail
      obtain ⟨X, hX⟩ : ∃ X, X = w1.setCell ⟨w.heap.size + 1, 42, none⟩ (.int .i64 (nr % 6)) := ⟨_, rfl⟩
      rw [← hX]
      have HBX := Lib.hid (show Below w.heap.size w X from by rw [hX]; exact HB1.out.setCell (by show _ ≤ w.heap.size + 1; omega) _)
      have HXX := Lib.hid (show Bx X (w.heap.size + 1) (setSt t (nr % 6)).cells from by rw [hX]; exact HX1.out.set 42 _)
      have HXH := Lib.hid (show X.cell? ⟨w.heap.size, 0, none⟩ = some (.slice A n c) from by rw [hX, World.cell?_setCell_far _ _ _ _ (by show w.heap.size + 1 ≠ w.heap.size; omega)]; exact q0)
      have HTL := Lib.hid (show Tl w X A n c (setSt t (nr % 6)) rs ws ds ns from ⟨HXX.out, HXH.out, HR.out.up HBX.out, HW.out.up HBX.out, HD.out.up HBX.out, HN.out.sl.up HBX.out, by show t.rd.n ≤ 60; omega, by show t.wt.n ≤ 60; omega, by show t.dl.n ≤ 60; omega, by show t.nw.n ≤ 60; omega, HWT.out, HNW.out, HBX.out⟩)
      have hXl : w.heap.size + 2 ≤ X.heap.size := by rw [hX]; simp; omega
      have HF := Lib.hid (show t.rd.n ≤ 60 ∧ t.wt.n ≤ 60 ∧ t.dl.n ≤ 60 ∧ t.nw.n ≤ 60 ∧ n ≤ 20 from ⟨by omega, by omega, by omega, by omega, by omega⟩)
      clear hX q0 q37 q38 q39 q40 q42 f42 e1 e2 e3 h60 hn20
      go_cut [] (fun wx => ∃ (t' : Ta) (rs' ws' : List Cl) (ds' : List Dl) (ns' : List Ob), Hid (Tl w wx A n c t' rs' ws' ds' ns'))
      case first =>
        cases near
        · go_wp2
          go_meet
          exact ⟨_, _, _, _, _, HTL⟩
        · go_wp2_with (with_reducible refine wpList_load_ta rfl (.tmp 5) rfl (by simp [Act.eval]) HXX.out.ta ?_)
          refine (keepT_any (setSt t (nr % 6)) gl rs ws ds ns al X (HGS.out.up HBX.out) hgm (HR.out.up HBX.out) (by have := HF.out; show t.rd.n ≤ _; omega) (HD.out.up HBX.out) (by have := HF.out; show t.dl.n ≤ _; omega) (HW.out.up HBX.out) (by have := HF.out; show t.wt.n ≤ _; omega) (HN.out.up HBX.out) (by have := HF.out; show t.nw.n ≤ _; omega) (HA.out.up HBX.out) ham).mono ?_
          rintro e w2 ⟨t', ns', base, rfl, hpo, hK⟩
          have HK := Lib.hid hK
          have HPO := Lib.hid hpo
          have HX2 := Lib.hid (HXX.out.below hK.below (by omega))
          clear hK hpo
          go_upto_region 8 with (with_reducible refine wpList_store_ta rfl (.tmp 5) (.tmp 45) rfl t' (by simp [Act.eval, Act.put]) HX2.out (by simp [Act.eval, Act.put]) ?_)
          obtain ⟨Z, hZ⟩ : ∃ Z, Z = w2.setCells (w.heap.size + 1) 0 t'.cells := ⟨_, rfl⟩
          have HLP := Lib.hid (show Lp w Z A n c t' rs ws ds ns' base from by rw [hZ]; exact lp_mk HTL.out hXl HK.out HX2.out (ids_wf HPO.out HNW.out))
          rw [← hZ]
          clear hZ
          have q37 : Z.cell? ⟨w.heap.size + 1, 37, none⟩ = some (.slice t'.rd.A t'.rd.n t'.rd.c) := HLP.out.box.2.1 37 _ t'.c37
          go_wp2_with fail
          go_loopw [49] (fun i wr => ∃ (k : Nat) (rs' : List Cl), k ≤ t'.rd.n ∧ i = .int .i64 k ∧ Hid (Lp w wr A n c t' rs' ws ds ns' base)) (fun i _ => t'.rd.n - (intOf i).toNat)
          case atStart => exact ⟨0, rs, Nat.zero_le _, rfl, HLP⟩
          case round =>
            obtain ⟨k, rs', hk, rfl, hL⟩ := hrel
            have hrn := hL.out.rn
            by_cases hlt : k < t'.rd.n
            · have q0 := hL.out.h
              have hbl := hL.out.box.lt
              have hl0 : w.heap.size < wr.heap.size := by omega
              by_cases hn0 : 0 < n
              · obtain ⟨g, hA, hg0, hg1, hfz⟩ := own_at0 hL.out.rd (show 0 < t'.rd.n by omega)
                have q37 : wr.cell? ⟨w.heap.size + 1, 37, none⟩ = some (.slice (some ⟨g, 0, none⟩) t'.rd.n t'.rd.c) := by rw [← hA]; exact hL.out.box.2.1 37 _ t'.c37
                obtain ⟨x, hx⟩ : ∃ x, rs'[k]? = some x := ⟨_, List.getElem?_eq_getElem (by rw [hL.out.rl]; exact hlt)⟩
                have hat := Sl.of_own Cl.size hL.out.rl hL.out.rd
                rw [hA] at hat
                have c0 : wr.cell? ⟨g, k * 4, none⟩ = some (.int .i64 x.id) := by have := sl_at hat hx (j := 0) rfl; rwa [Nat.zero_add, Nat.add_zero] at this
                have hn0I : (0 : Int) < (n : Int) := by omega
                obtain ⟨q, hq, hqn⟩ := ridx x.id n hn0 (by omega)
                obtain ⟨ab, ao, hAe, hlo, hat2⟩ := HS.out.sl.at_ hn0
                rw [hAe] at q0
                clear hAe
                have HAA := Lib.hid hA
                clear hA
                obtain ⟨o, ho⟩ : ∃ o, l[q]? = some o := ⟨_, List.getElem?_eq_getElem (by rw [HS.out.sl.len]; exact hqn)⟩
                have o0 : wr.cell? ⟨ab, ao + q * 2, none⟩ = some (.int .i64 o.id) := (belc hL.out.below hlo).trans (hat2 q o ho 0 _ rfl)
                have o1 : wr.cell? ⟨ab, ao + q * 2 + 1, none⟩ = some (.slice o.A o.n o.c) := (belc hL.out.below hlo).trans (hat2 q o ho 1 _ rfl)
                have hqI : (q : Int) < (n : Int) := by omega
                have hlab : ab < wr.heap.size := by omega
                clear hat hat2
                go_upto_region 12 with fail
                go_region
                obtain ⟨V, hV⟩ : ∃ V, V = (wr.alloc (.cells #[.int .i64 o.id, .slice o.A o.n o.c] 39)).drew := ⟨_, rfl⟩
                rw [← hV]
                have hbV : Below wr.heap.size wr V := by rw [hV]; exact Below.drew ((Below.refl _ _).alloc (Nat.le_refl _) _)
                have HLV := Lib.hid (hL.out.up hbV)
                have p0 : V.cell? ⟨wr.heap.size, 0, none⟩ = some (.int .i64 o.id) := by rw [hV, World.cell?_drew]; exact cell_new _ _ _ _ _ rfl
                have p1 : V.cell? ⟨wr.heap.size, 1, none⟩ = some (.slice o.A o.n o.c) := by rw [hV, World.cell?_drew]; exact cell_new _ _ _ _ _ rfl
                have hlV : wr.heap.size < V.heap.size := by rw [hV]; show _ < (wr.alloc _).heap.size; simp
                have hrg : g < base := HLV.out.rlt g (by unfold Sc.v; rw [HAA.out]; rfl)
                have q37 := (belc hbV hbl).trans q37
                have c0 := (belc hbV hg1).trans c0
                have f0 := (belf hbV hg1).trans (hfz (k * 4))
                have hne : g ≠ wr.heap.size := by omega
                clear hV hbV o0 o1
                go_upto_region 14 with fail
                obtain ⟨V1, hV1⟩ : ∃ V1, V1 = V.setCell ⟨g, k * 4, none⟩ (.int .i64 o.id) := ⟨_, rfl⟩
                rw [← hV1]
                have HL1 := Lib.hid (show Lp w V1 A n c t' (rs'.set k ⟨o.id, x.field, x.ref, x.n⟩) ws ds ns' base from by rw [hV1]; exact HLV.out.put (j := 0) HAA.out hrg (by have := hg0; omega) ⟨o.id, x.field, x.ref, x.n⟩ (.int .i64 o.id) hx (by omega) rfl)
                have hb1 : Below w.heap.size w V1 := HL1.out.below
                have hgr1 : V.grownBy V1 (some g) := by rw [hV1]; exact grown1 V ⟨g, k * 4, none⟩ _
                have p1 := ((gcell hgr1).1 wr.heap.size 1 hlV (by simpa using fun e => hne e.symm)).trans p1
                clear hV1 p0 c0 f0
                have q37 := ((gcell hgr1).1 (w.heap.size + 1) 37 (by have := HLV.out.box.lt; omega) (by simp; omega)).trans q37
                have hz1V := hgr1.size
                clear hgr1
                by_cases ho0 : 0 < o.n
                · have ho0I : (0 : Int) < (o.n : Int) := by omega
                  have hrx : (rs'.set k (⟨o.id, x.field, x.ref, x.n⟩ : Cl))[k]? = some ⟨o.id, x.field, x.ref, x.n⟩ := by rw [List.getElem?_set, if_pos rfl, if_pos (by rw [hL.out.rl]; exact hlt)]
                  have hat := Sl.of_own Cl.size HL1.out.rl HL1.out.rd
                  rw [HAA.out] at hat
                  have c1 : V1.cell? ⟨g, k * 4 + 1, none⟩ = some (.int .i64 x.field) := by have := sl_at hat hrx (j := 1) rfl; rwa [Nat.zero_add] at this
                  have hfz1 : ∀ j, V1.frozen? ⟨g, j, none⟩ = false := by
                    have h5 := HL1.out.rd
                    unfold Sc.v at h5
                    obtain ⟨g', hA', _, _, hf⟩ := own_at0 h5 (show 0 < t'.rd.n by omega)
                    rw [HAA.out] at hA'
                    injection hA' with hA'
                    injection hA' with hA'
                    subst hA'
                    exact hf
                  have f1 := hfz1 (k * 4 + 1)
                  obtain ⟨hob, hon⟩ := HS.out.obs o (List.mem_of_getElem? ho)
                  obtain ⟨q2, hq2, hqn2⟩ := ridx x.field o.n ho0 (by omega)
                  obtain ⟨fb, fo, hfA, hflo, hfat⟩ := hob.at_ ho0
                  obtain ⟨v, hv⟩ : ∃ v, o.s[q2]? = some v := ⟨_, List.getElem?_eq_getElem (by rw [hob.len]; exact hqn2)⟩
                  have hqI2 : (q2 : Int) < (o.n : Int) := by omega
                  rw [hfA] at p1
                  clear hfA
                  clear hat
                  go_upto_region 15 with fail
                  go_region
                  obtain ⟨V2, hV2⟩ : ∃ V2, V2 = (V1.setCell ⟨g, k * 4 + 1, none⟩ (.int .i64 q2)).drew := ⟨_, rfl⟩
                  rw [← hV2]
                  have HL2 := Lib.hid (show Lp w V2 A n c t' ((rs'.set k ⟨o.id, x.field, x.ref, x.n⟩).set k ⟨o.id, q2, x.ref, x.n⟩) ws ds ns' base from by rw [hV2]; exact (HL1.out.put (j := 1) HAA.out hrg (by have := hg0; omega) ⟨o.id, q2, x.ref, x.n⟩ (.int .i64 q2) hrx (by omega) rfl).up (Below.drew (Below.refl _ _)))
                  have hgr2 : V1.grownBy V2 (some g) := by rw [hV2]; exact grown_drew (grown1 V1 ⟨g, k * 4 + 1, none⟩ _)
                  have hl1V : wr.heap.size < V1.heap.size := by have := HL1.out.box.lt; have := HLV.out.box.lt; omega
                  have p1 := ((gcell hgr2).1 wr.heap.size 1 hl1V (by simpa using fun e => hne e.symm)).trans p1
                  have q37 := ((gcell hgr2).1 (w.heap.size + 1) 37 (by have := HL1.out.box.lt; omega) (by simp; omega)).trans q37
                  clear hV2 hgr2 c1 f1 hfz1
                  have hrx2 : ((rs'.set k (⟨o.id, x.field, x.ref, x.n⟩ : Cl)).set k ⟨o.id, q2, x.ref, x.n⟩)[k]? = some ⟨o.id, q2, x.ref, x.n⟩ := by rw [List.getElem?_set, if_pos rfl, if_pos (by rw [List.length_set, hL.out.rl]; exact hlt)]
                  have hat := Sl.of_own Cl.size HL2.out.rl HL2.out.rd
                  rw [HAA.out] at hat
                  have c1 : V2.cell? ⟨g, k * 4 + 1, none⟩ = some (.int .i64 q2) := by have := sl_at hat hrx2 (j := 1) rfl; rwa [Nat.zero_add] at this
                  have c2 : V2.cell? ⟨g, k * 4 + 2, none⟩ = some (.bool x.ref) := by have := sl_at hat hrx2 (j := 2) rfl; rwa [Nat.zero_add] at this
                  have c3 : V2.cell? ⟨g, k * 4 + 3, none⟩ = some (.int .i64 x.n) := by have := sl_at hat hrx2 (j := 3) rfl; rwa [Nat.zero_add] at this
                  have hfz2 : ∀ j, V2.frozen? ⟨g, j, none⟩ = false := by
                    have h5 := HL2.out.rd
                    unfold Sc.v at h5
                    obtain ⟨g', hA', _, _, hf⟩ := own_at0 h5 (show 0 < t'.rd.n by omega)
                    rw [HAA.out] at hA'
                    injection hA' with hA'
                    injection hA' with hA'
                    subst hA'
                    exact hf
                  have f2 := hfz2 (k * 4 + 2)
                  have f3 := hfz2 (k * 4 + 3)
                  have d0 : V2.cell? ⟨fb, fo + q2 * 2, none⟩ = some (.bool v.ref) := (belc HL2.out.below hflo).trans (hfat q2 v hv 0 _ rfl)
                  have d1 : V2.cell? ⟨fb, fo + q2 * 2 + 1, none⟩ = some (.int .i64 v.n) := (belc HL2.out.below hflo).trans (hfat q2 v hv 1 _ rfl)
                  clear hat hfat hfz2
                  have hfar : ∀ b o' : Nat, b ≠ g → (((V2.setCell ⟨g, k * 4 + 2, none⟩ (.bool v.ref)).setCell ⟨g, k * 4 + 2 + 1, none⟩ (.int .i64 v.n)).drew).cell? ⟨b, o', none⟩ = V2.cell? ⟨b, o', none⟩ := fun b o' hb => by rw [World.cell?_drew, World.cell?_setCell_far _ _ _ _ (fun e => hb e.symm), World.cell?_setCell_far _ _ _ _ (fun e => hb e.symm)]
                  have s37 := (hfar (w.heap.size + 1) 37 (by omega)).trans q37
                  have s1 := (hfar wr.heap.size 1 hne.symm).trans p1
                  have sd0 := (hfar fb (fo + q2 * 2) (by omega)).trans d0
                  have sd1 := (hfar fb (fo + q2 * 2 + 1) (by omega)).trans d1
                  have sc1 : (((V2.setCell ⟨g, k * 4 + 2, none⟩ (.bool v.ref)).setCell ⟨g, k * 4 + 2 + 1, none⟩ (.int .i64 v.n)).drew).cell? ⟨g, k * 4 + 1, none⟩ = some (.int .i64 q2) := by rw [World.cell?_drew, set_other _ _ _ _ (by simp), set_other _ _ _ _ (by simp)]; exact c1
                  have HSS := Lib.hid (⟨s37, s1, sc1, sd0, sd1⟩ : _ ∧ _ ∧ _ ∧ _ ∧ _)
                  clear hfar s37 s1 sd0 sd1 sc1
                  go_upto_region 16 with fail
                  go_region_held3 (fun w' => w'.cell? ⟨w.heap.size + 1, 37, none⟩ = some (.slice (some ⟨g, 0, none⟩) t'.rd.n t'.rd.c) ∧ w'.cell? ⟨wr.heap.size, 1, none⟩ = some (.slice (some ⟨fb, fo, none⟩) o.n o.c) ∧ w'.cell? ⟨g, k * 4 + 1, none⟩ = some (.int .i64 q2) ∧ w'.cell? ⟨fb, fo + q2 * 2, none⟩ = some (.bool v.ref) ∧ w'.cell? ⟨fb, fo + q2 * 2 + 1, none⟩ = some (.int .i64 v.n))
                    (first | exact ⟨q37, p1, c1, d0, d1⟩ | exact HSS.out)
                    (fail)
                  obtain ⟨V3, hV3⟩ : ∃ V3, V3 = ((V2.setCell ⟨g, k * 4 + 2, none⟩ (.bool v.ref)).setCell ⟨g, k * 4 + 2 + 1, none⟩ (.int .i64 v.n)).drew := ⟨_, rfl⟩
                  rw [← hV3]
                  clear HSS
                  have HL3 := Lib.hid (show Lp w V3 A n c t' ((((rs'.set k ⟨o.id, x.field, x.ref, x.n⟩).set k ⟨o.id, q2, x.ref, x.n⟩).set k ⟨o.id, q2, v.ref, x.n⟩).set k ⟨o.id, q2, v.ref, v.n⟩) ws ds ns' base from by
                    rw [hV3]
                    have h3 := HL2.out.put (j := 2) HAA.out hrg (by have := hg0; omega) ⟨o.id, q2, v.ref, x.n⟩ (.bool v.ref) hrx2 (by omega) rfl
                    exact (h3.put (j := 3) (x := ⟨o.id, q2, v.ref, x.n⟩) HAA.out hrg (by have := hg0; omega) ⟨o.id, q2, v.ref, v.n⟩ (.int .i64 v.n) (by rw [List.getElem?_set, if_pos rfl, if_pos (by rw [List.length_set, List.length_set, hL.out.rl]; exact hlt)]) (by omega) rfl).up (Below.drew (Below.refl _ _)))
                  clear hV3 c1 c2 c3 f2 f3 d0 d1
                  go_wp2
                  go_roundw
                  case rel => exact ⟨k + 1, _, by omega, by go_num, HL3⟩
                  case measure => simp [intOf]; omega
                · have ho0I : ¬ (0 : Int) < (o.n : Int) := by omega
                  go_wp2
                  go_roundw
                  case rel => exact ⟨k + 1, _, by omega, by go_num, HL1⟩
                  case measure => simp [intOf]; omega
              · have hn0I : ¬ (0 : Int) < (n : Int) := by omega
                go_wp2
                go_roundw
                case rel => exact ⟨k + 1, rs', by omega, by go_num, hL⟩
                case measure => simp [intOf]; omega
            · obtain rfl : k = t'.rd.n := by omega
              go_wp2
              go_meet
              exact ⟨t', rs', ws, ds, ns', Lib.hid hL.out.tl⟩
      case rest =>
        obtain ⟨t', rs', ws', ds', ns', hT⟩ := hcut
        have q0 := hT.out.h
        have hn20 : n ≤ 20 := HF.out.2.2.2.2
        have HGc := Lib.hid (HG.out.below hT.out.below hw0)
        have HSc := Lib.hid (HS.out.up hT.out.below)
        obtain ⟨ci, cf, cr, cn, ck, ho⟩ := outR_form (wrongP (l.map Ob.po) rs')
        have HO := Lib.hid ho
        clear ho HX HQ HX1 HXX HXH HTL
        go_wp2_with (with_reducible refine wpList_load_ta rfl (.tmp 5) rfl (by simp [Act.eval, Act.put]) hT.out.box.ta ?_)
        refine (Reads_any A n c l t' rs' wc HGc.out HSc.out (by omega) hT.out.rd (by have := hT.out.rn; omega)).mono ?_
        rw [HO.out]
        rintro e w4 ⟨rfl, hb4⟩
        obtain ⟨X1, hX1⟩ : ∃ X1, X1 = w4.alloc (.cells #[.int .i64 ci, .int .i64 cf, .bool cr, .int .i64 cn] 42) := ⟨_, rfl⟩
        have hb41 : Below wc.heap.size wc X1 := by rw [hX1]; exact hb4.alloc hb4.size _
        have HT1 := Lib.hid (hT.out.up hb41)
        have HS1 := Lib.hid (HSc.out.up hb41)
        have HQ1 := Lib.hid (show X1.cell? ⟨w4.heap.size, 0, none⟩ = some (.int .i64 ci) ∧ X1.cell? ⟨w4.heap.size, 1, none⟩ = some (.int .i64 cf) ∧ X1.cell? ⟨w4.heap.size, 2, none⟩ = some (.bool cr) ∧ X1.cell? ⟨w4.heap.size, 3, none⟩ = some (.int .i64 cn) from ⟨(by rw [hX1, cell_new _ _ _ _ _ (by simp <;> omega)]; rfl), (by rw [hX1, cell_new _ _ _ _ _ (by simp <;> omega)]; rfl), (by rw [hX1, cell_new _ _ _ _ _ (by simp <;> omega)]; rfl), (by rw [hX1, cell_new _ _ _ _ _ (by simp <;> omega)]; rfl)⟩)
        have hlX1 : w4.heap.size < X1.heap.size := by rw [hX1]; simp
        clear hb4 hb41
        go_upto_region 19 with fail
        rw [← hX1]
        clear hX1 q0
        have q0 := HT1.out.h
        go_wp2_with (with_reducible refine wpList_load_ta rfl (.tmp 5) rfl (by simp [Act.eval, Act.put]) HT1.out.box.ta ?_)
        refine (refreads_any A n c l t' rs' X1 HS1.out (by omega) HT1.out.rd (by have := hT.out.rn; omega)).mono ?_
        rw [HO.out]
        rintro e w5 ⟨rfl, hb5⟩
        obtain ⟨Y, hY⟩ : ∃ Y, Y = w5.alloc (.cells #[.int .i64 ci, .int .i64 cf, .bool cr, .int .i64 cn] 42) := ⟨_, rfl⟩
        have hb51 : Below X1.heap.size X1 Y := by rw [hY]; exact hb5.alloc hb5.size _
        have HT2 := Lib.hid (HT1.out.up hb51)
        have HS2 := Lib.hid (HS1.out.up hb51)
        have HGY := Lib.hid (HG.out.below HT2.out.below hw0)
        have k0 : Y.cell? ⟨w5.heap.size, 0, none⟩ = some (.int .i64 ci) := (by rw [hY, cell_new _ _ _ _ _ (by simp <;> omega)]; rfl)
        have k1 : Y.cell? ⟨w5.heap.size, 1, none⟩ = some (.int .i64 cf) := (by rw [hY, cell_new _ _ _ _ _ (by simp <;> omega)]; rfl)
        have k2 : Y.cell? ⟨w5.heap.size, 2, none⟩ = some (.bool cr) := (by rw [hY, cell_new _ _ _ _ _ (by simp <;> omega)]; rfl)
        have k3 : Y.cell? ⟨w5.heap.size, 3, none⟩ = some (.int .i64 cn) := (by rw [hY, cell_new _ _ _ _ _ (by simp <;> omega)]; rfl)
        have j0 := (belc hb51 hlX1).trans HQ1.out.1
        have j1 := (belc hb51 hlX1).trans HQ1.out.2.1
        have j2 := (belc hb51 hlX1).trans HQ1.out.2.2.1
        have j3 := (belc hb51 hlX1).trans HQ1.out.2.2.2
        have hlY : w5.heap.size < Y.heap.size := by rw [hY]; simp
        have hlY4 : w4.heap.size < Y.heap.size := by have := hb51.size; omega
        clear hb5 hb51
        go_upto_region 20 with fail
        rw [← hY]
        clear hY q0 HGc HSc HT1 HS1 HQ1
        have q0 := HT2.out.h
        have hlB : w.heap.size + 1 < Y.heap.size := HT2.out.box.lt
        have t48 : There48 Y (.pointer (some ⟨w.heap.size + 1, 0, none⟩)) := ⟨_, t', rfl, HT2.out.box.ta⟩
        have r48 : row48V Y (.pointer (some ⟨w.heap.size + 1, 0, none⟩)) = t'.cells.toArray := row48_at HT2.out.box.ta
        have HTD := Lib.hid (show Tl w Y.drew A n c t' rs' ws' ds' ns' from HT2.out.up (Below.drew (Below.refl _ _)))
        have HSD := Lib.hid (show Hp Y.drew Y.drew.heap.size A n l from HS2.out.up (Below.drew (Below.refl _ _)))
        go_region_held3 (fun w' => (w'.cell? ⟨w.heap.size, 0, none⟩ = some (.slice A n c) ∧ There48 w' (.pointer (some ⟨w.heap.size + 1, 0, none⟩)) ∧ row48V w' (.pointer (some ⟨w.heap.size + 1, 0, none⟩)) = t'.cells.toArray) ∧ (w'.cell? ⟨w4.heap.size, 0, none⟩ = some (.int .i64 ci) ∧ w'.cell? ⟨w4.heap.size, 1, none⟩ = some (.int .i64 cf) ∧ w'.cell? ⟨w4.heap.size, 2, none⟩ = some (.bool cr) ∧ w'.cell? ⟨w4.heap.size, 3, none⟩ = some (.int .i64 cn)) ∧ (w'.cell? ⟨w5.heap.size, 0, none⟩ = some (.int .i64 ci) ∧ w'.cell? ⟨w5.heap.size, 1, none⟩ = some (.int .i64 cf) ∧ w'.cell? ⟨w5.heap.size, 2, none⟩ = some (.bool cr) ∧ w'.cell? ⟨w5.heap.size, 3, none⟩ = some (.int .i64 cn)))
          (first | exact ⟨⟨q0, t48, r48⟩, ⟨j0, j1, j2, j3⟩, ⟨k0, k1, k2, k3⟩⟩ | exact ⟨⟨q06, t486, r486⟩, ⟨j06, j16, j26, j36⟩, ⟨k06, k16, k26, k36⟩⟩ | exact ⟨⟨q07, t487, r487⟩, ⟨j07, j17, j27, j37⟩, ⟨k07, k17, k27, k37⟩⟩)
          (first
            | (go_at_call 8; refine (check_any A n c l t' rs' ws' ds' ns' Y.drew HGY.out (HSD.out) (by omega) HTD.out.rd (by have := HTD.out.rn; omega) HTD.out.dl (by have := HTD.out.dn; omega) HTD.out.wt (by have := HTD.out.wn; omega) HTD.out.nw (by have := HTD.out.nn; omega)).mono ?_; rintro e w6 ⟨rfl, hb6⟩; have hb6 : Below Y.heap.size Y w6 := (Below.drew (Below.refl _ _)).trans hb6; have HS6 := Lib.hid (HS2.out.up hb6); have q06 := (belc hb6 (by omega)).trans q0; have HT6 := Lib.hid (HT2.out.up hb6); have t486 : There48 w6 (.pointer (some ⟨w.heap.size + 1, 0, none⟩)) := ⟨_, t', rfl, HT6.out.box.ta⟩; have r486 : row48V w6 (.pointer (some ⟨w.heap.size + 1, 0, none⟩)) = t'.cells.toArray := row48_at HT6.out.box.ta; have j06 := (belc hb6 hlY4).trans j0; have k06 := (belc hb6 hlY).trans k0; have j16 := (belc hb6 hlY4).trans j1; have k16 := (belc hb6 hlY).trans k1; have j26 := (belc hb6 hlY4).trans j2; have k26 := (belc hb6 hlY).trans k2; have j36 := (belc hb6 hlY4).trans j3; have k36 := (belc hb6 hlY).trans k3)
            | (go_at_call 9; refine (refcheck_any A n c l t' rs' ws' ds' ns' w6 (HS6.out) (by omega) HT6.out.rd (by have := HT6.out.rn; omega) HT6.out.dl (by have := HT6.out.dn; omega) HT6.out.wt (by have := HT6.out.wn; omega) HT6.out.nw (by have := HT6.out.nn; omega) HT6.out.nwf HT6.out.wwf).mono ?_; rintro e w7 ⟨rfl, hb7⟩; have hb7 : Below Y.heap.size Y w7 := hb6.trans (hb7.mono hb6.size); have q07 := (belc hb7 (by omega)).trans q0; have HT7 := Lib.hid (HT2.out.up hb7); have t487 : There48 w7 (.pointer (some ⟨w.heap.size + 1, 0, none⟩)) := ⟨_, t', rfl, HT7.out.box.ta⟩; have r487 : row48V w7 (.pointer (some ⟨w.heap.size + 1, 0, none⟩)) = t'.cells.toArray := row48_at HT7.out.box.ta; have j07 := (belc hb7 hlY4).trans j0; have k07 := (belc hb7 hlY).trans k0; have j17 := (belc hb7 hlY4).trans j1; have k17 := (belc hb7 hlY).trans k1; have j27 := (belc hb7 hlY4).trans j2; have k27 := (belc hb7 hlY).trans k2; have j37 := (belc hb7 hlY4).trans j3; have k37 := (belc hb7 hlY).trans k3))
        all_goals
          go_wp2
          go_ret
          exact ⟨by simp, HT2.out.below.trans (hb7.mono HT2.out.below.size)⟩
end Go.Proofs.YtfhpniafkkgibaaDoor
