/- A task that the law keeps. -/
import Derived.Test.YtfhpniafkkgibaaDoorO
import Derived.Test.YtfhpniafkkgibaaDoorRow
import Derived.Deep.RegionHeld3
import Derived.Deep.RegionWith
namespace Go.Proofs.YtfhpniafkkgibaaDoor
open Go.RowKit

/-- A box of 48 cells. -/
def Bx (w : World) (b : Nat) (cs : List Value) : Prop := cs.length = 48 ∧ (∀ (j : Nat) (v : Value), cs[j]? = some v → w.cell? ⟨b, j, none⟩ = some v) ∧ ∀ j, w.frozen? ⟨b, j, none⟩ = false
theorem Bx.below {w w' : World} {b B : Nat} {cs : List Value} (h : Bx w b cs) (hb : Below B w w') (hl : b < B) : Bx w' b cs :=
  ⟨h.1, fun j v hv => (belc hb hl).trans (h.2.1 j v hv), fun j => (belf hb hl).trans (h.2.2 j)⟩
theorem Bx.grown {w w' : World} {b : Nat} {cs : List Value} {r : Option Nat} (h : Bx w b cs) (hg : w.grownBy w' r) (hl : b < w.heap.size) (hr : some b ≠ r) : Bx w' b cs :=
  ⟨h.1, fun j v hv => ((gcell hg).1 b j hl hr).trans (h.2.1 j v hv), fun j => ((gcell hg).2 b j hl hr).trans (h.2.2 j)⟩
theorem Bx.set {w : World} {b : Nat} {cs : List Value} (h : Bx w b cs) (k : Nat) (u : Value) : Bx (w.setCell ⟨b, k, none⟩ u) b (cs.set k u) := by
  refine ⟨by rw [List.length_set]; exact h.1, fun j v hv => ?_, fun j => ?_⟩
  · rw [List.getElem?_set] at hv
    by_cases hk : k = j
    · subst hk
      rw [if_pos rfl] at hv
      split at hv
      · rename_i hlt
        injection hv with hv; subst hv
        exact World.cell?_setCell_same _ _ _ (h.2.1 k _ (List.getElem?_eq_getElem hlt))
      · cases hv
    · rw [if_neg hk] at hv
      rw [set_other _ _ _ _ (by intro e; injection e with _ e; exact hk e)]
      exact h.2.1 j v hv
  · rw [World.frozen?_setCell]
    exact h.2.2 j
theorem Bx.far {w : World} {b : Nat} {cs : List Value} (h : Bx w b cs) {p : Addr} (hp : p.block ≠ b) (u : Value) : Bx (w.setCell p u) b cs :=
  ⟨h.1, fun j v hv => (World.cell?_setCell_far _ _ _ _ hp).trans (h.2.1 j v hv), fun j => by rw [World.frozen?_setCell]; exact h.2.2 j⟩
theorem Bx.lt {w : World} {b : Nat} {cs : List Value} (h : Bx w b cs) : b < w.heap.size := by
  have h0 := h.2.1 0 _ (List.getElem?_eq_getElem (by rw [h.1]; omega))
  exact World.block_lt_of_cell? w _ h0
theorem Bx.ta {w : World} {b : Nat} {t : Ta} (h : Bx w b t.cells) : TaAt w b t := h.2.1
theorem Bx.there {w : World} {b : Nat} {cs : List Value} (h : Bx w b cs) : w.there b 0 48 := fun j hj => by
  rw [Nat.zero_add]
  refine ⟨?_, h.2.2 j⟩
  rw [h.2.1 j _ (List.getElem?_eq_getElem (by rw [h.1]; exact hj))]
  rfl
theorem Bx.all {w : World} {b : Nat} {cs : List Value} (h : Bx w b cs) (vs : List Value) (hv : vs.length = 48) : Bx (w.setCells b 0 vs) b vs := by
  refine ⟨hv, fun j v hj => ?_, fun j => ?_⟩
  · have := World.rangeAt_setCells_same w b 0 vs (by rw [hv]; exact h.there) j v hj
    rwa [Nat.zero_add] at this
  · rw [World.frozen?_setCells]; exact h.2.2 j
def zeroT : List Value := [.int .i64 0, .int .i64 0, .bool false, .int .i64 0, .bool false, .int .i64 0, .bool false, .int .i64 0, .bool false, .int .i64 0, .bool false, .int .i64 0, .bool false, .int .i64 0, .bool false, .int .i64 0, .bool false, .int .i64 0, .bool false, .int .i64 0, .bool false, .int .i64 0, .bool false, .int .i64 0, .bool false, .int .i64 0, .bool false, .int .i64 0, .bool false, .int .i64 0, .bool false, .int .i64 0, .bool false, .int .i64 0, .bool false, .int .i64 0, .slice none 0 0, .slice none 0 0, .slice none 0 0, .slice none 0 0, .slice none 0 0, .slice none 0 0, .int .i64 0, .int .i64 0, .bool false, .bool false, .int .i64 0, .int .i64 0]

theorem wpList_store_ta {ops : Array Oper} {rest : List Oper} {op : Oper} {a : Act} {w : World} {Q : Exit → Act → World → Prop} (hgd : op.guard = none) (x y : Operand) (ho : op.op = .store 34 x y)
    {b : Nat} {cs : List Value} (t : Ta) (hx : a.eval x = .pointer (some ⟨b, 0, none⟩)) (hb : Bx w b cs) (hy : a.eval y = .agg t.cells.toArray)
    (h : wpList Tryd.prog ops Q rest (a.put op.dst undef) (w.setCells b 0 t.cells)) : wpList Tryd.prog ops Q (op :: rest) a w :=
  wpList_store_mid hgd _ x y ho b 0 t.cells.toArray hx hy (by rw [List.size_toArray, t.size]; exact hb.there) (by rw [List.size_toArray, t.size]; exact ta_agg) (by simpa using t.one) (by simpa using h)
theorem run_cells_ta {w : World} {b : Nat} {cs : List Value} (h : Bx w b cs) : (loadCellsFrom ⟨b, 0, none⟩ 0 48 #[]).run Tryd.prog w = .ok cs.toArray w := by
  have := run_loadCells_list (P := Tryd.prog) w ⟨b, 0, none⟩ cs (fun j v hv => by rw [Addr.add_mid, Nat.zero_add]; exact h.2.1 j v hv)
  rwa [h.1] at this

theorem results_ta {a : Array Value} {w : World} {b : Nat} {cs : List Value} (h0 : a[2]?.getD undef = .pointer (some ⟨b, 0, none⟩)) (hb : Bx w b cs) : (results Tryd.f5 a).run Tryd.prog w = .ok (.agg cs.toArray) w := by
  have hl := run_loadVar_mid (P := Tryd.prog) w b 0 34 cs _ (fun j v hv => by rw [Nat.zero_add]; exact hb.2.1 j v hv) Tryd.underlying34 rfl (by rw [hb.1]; exact ta_agg)
  unfold results
  rw [Tryd.results5]
  simp [h0, asAddr, Sem.run_bind, hl, Result.andThen]
/-- What is known of the kept task: its reads lie in a row of their own, ahead of all else. -/
structure Kept (w w' : World) (t t' : Ta) (rs ws : List Cl) (ds : List Dl) (ns : List Ob) (base : Nat) : Prop where
  hbase : w.heap.size ≤ base
  status : t'.status = t.status
  rn : t'.rd.n = t.rd.n
  wn : t'.wt.n = t.wt.n
  nn : t'.nw.n = t.nw.n
  dn : t'.dl.n = t.dl.n
  rd : w'.ownsRow w.heap.size 42 4 t'.rd.v t'.rd.n (rs.flatMap Cl.cells)
  rlt : ∀ k, t'.rd.v.ownBlock = some k → k < base
  wt : Sl w' w'.heap.size 4 Cl.cells t'.wt.A t'.wt.n ws
  wlo : ∀ ad, t'.wt.A = some ad → base ≤ ad.block
  dl : Sl w' w'.heap.size 5 Dl.cells t'.dl.A t'.dl.n ds
  dlo : ∀ ad, t'.dl.A = some ad → base ≤ ad.block
  nw : Sl w' w'.heap.size 2 Ob.cells t'.nw.A t'.nw.n ns
  nlo : ∀ ad, t'.nw.A = some ad → base ≤ ad.block
  below : Below w.heap.size w w'

/-- Behind the first statement: guesses, reads and writes copied. -/
structure St1 (w wx : World) (t : Ta) (rs ws : List Cl) (A4 A5 A6 : Option Addr) (c4 c5 c6 base : Nat) : Prop where
  box : Bx wx w.heap.size (((t.cells.set 36 (.slice A4 t.gs.n c4)).set 37 (.slice A5 t.rd.n c5)).set 38 (.slice A6 t.wt.n c6))
  zero : Bx wx (w.heap.size + 1) zeroT
  lo : w.heap.size + 2 ≤ base
  hi : base ≤ wx.heap.size
  rd : wx.ownsRow (w.heap.size + 2) 42 4 (.slice A5 t.rd.n c5) t.rd.n (rs.flatMap Cl.cells)
  rlt : ∀ k, (Value.slice A5 t.rd.n c5).ownBlock = some k → k < base
  wt : wx.ownsRow base 42 4 (.slice A6 t.wt.n c6) t.wt.n (ws.flatMap Cl.cells)
  below : Below w.heap.size w wx
theorem own_ne {w : World} {base : Nat} {e : TypeId} {size : Nat} {A : Option Addr} {n c b : Nat} {xs : List Value} (h : w.ownsRow base e size (.slice A n c) n xs) (hb : b < base) : (Value.slice A n c).ownBlock ≠ some b := fun h' => by
  have := (own_block_lt h h').1; omega
theorem st1_mk {w W w1 w2 w3 : World} {t : Ta} {rs ws : List Cl} {A4 A5 A6 : Option Addr} {c4 c5 c6 : Nat} (HB : Below w.heap.size w W) (hz : W.heap.size = w.heap.size + 2) (HX : Bx W w.heap.size t.cells) (HY : Bx W (w.heap.size + 1) zeroT)
    (hb1 : Below W.heap.size W w1) (hb2 : Below w1.heap.size w1 w2) (hb3 : Below w2.heap.size w2 w3)
    (ho5 : w2.ownsRow w1.heap.size 42 4 (.slice A5 t.rd.n c5) t.rd.n (rs.flatMap Cl.cells)) (ho6 : w3.ownsRow w2.heap.size 42 4 (.slice A6 t.wt.n c6) t.wt.n (ws.flatMap Cl.cells)) :
    St1 w (((w3.setCell ⟨w.heap.size, 36, none⟩ (.slice A4 t.gs.n c4)).setCell ⟨w.heap.size, 37, none⟩ (.slice A5 t.rd.n c5)).setCell ⟨w.heap.size, 38, none⟩ (.slice A6 t.wt.n c6)) t rs ws A4 A5 A6 c4 c5 c6 w2.heap.size := by
  have z1 := hb1.size
  have z2 := hb2.size
  have z3 := hb3.size
  have b3 : Below W.heap.size W w3 := hb1.trans ((hb2.mono z1).trans (hb3.mono (by omega)))
  refine ⟨(((HX.below b3 (by omega)).set 36 _).set 37 _).set 38 _, (((HY.below b3 (by omega)).far (by simp) _).far (by simp) _).far (by simp) _, by omega, by simpa using z3, ?_, fun k hk => (own_block_lt ho5 hk).2, ?_, ?_⟩
  · have h5 := own_below ho5 hb3
    exact own_mono (own_setCell (own_setCell (own_setCell h5 _ (own_ne h5 (by show w.heap.size < _; omega))) _ (own_ne h5 (by show w.heap.size < _; omega))) _ (own_ne h5 (by show w.heap.size < _; omega))) (by omega)
  · exact own_setCell (own_setCell (own_setCell ho6 _ (own_ne ho6 (by show w.heap.size < _; omega))) _ (own_ne ho6 (by show w.heap.size < _; omega))) _ (own_ne ho6 (by show w.heap.size < _; omega))
  · exact (((HB.trans (b3.mono (by omega))).setCell (Nat.le_refl _) _).setCell (Nat.le_refl _) _).setCell (Nat.le_refl _) _
/-- Behind the second statement: objects and actions copied. -/
structure St2 (w wx : World) (t : Ta) (rs ws : List Cl) (ns' : List Ob) (A4 A5 A6 A7 A9 : Option Addr) (c4 c5 c6 c7 c9 base : Nat) : Prop where
  box : Bx wx w.heap.size (((((t.cells.set 36 (.slice A4 t.gs.n c4)).set 37 (.slice A5 t.rd.n c5)).set 38 (.slice A6 t.wt.n c6)).set 39 (.slice A7 t.nw.n c7)).set 41 (.slice A9 t.ac.n c9))
  zero : Bx wx (w.heap.size + 1) zeroT
  lo : w.heap.size + 2 ≤ base
  hi : base ≤ wx.heap.size
  rd : wx.ownsRow (w.heap.size + 2) 42 4 (.slice A5 t.rd.n c5) t.rd.n (rs.flatMap Cl.cells)
  rlt : ∀ k, (Value.slice A5 t.rd.n c5).ownBlock = some k → k < base
  wt : wx.ownsRow base 42 4 (.slice A6 t.wt.n c6) t.wt.n (ws.flatMap Cl.cells)
  nw : Sl wx wx.heap.size 2 Ob.cells A7 t.nw.n ns'
  nlo : ∀ ad, A7 = some ad → base ≤ ad.block
  below : Below w.heap.size w wx
theorem st2_mk {w wx w1 w2 : World} {t : Ta} {rs ws : List Cl} {ns' : List Ob} {A4 A5 A6 A7 A9 : Option Addr} {c4 c5 c6 c7 c9 base : Nat} (S : St1 w wx t rs ws A4 A5 A6 c4 c5 c6 base)
    (hb1 : Below wx.heap.size wx w1) (hb2 : Below w1.heap.size w1 w2) (hn : Sl w1 w1.heap.size 2 Ob.cells A7 t.nw.n ns') (hlo : ∀ ad, A7 = some ad → wx.heap.size ≤ ad.block) :
    St2 w ((w2.setCell ⟨w.heap.size, 39, none⟩ (.slice A7 t.nw.n c7)).setCell ⟨w.heap.size, 41, none⟩ (.slice A9 t.ac.n c9)) t rs ws ns' A4 A5 A6 A7 A9 c4 c5 c6 c7 c9 base := by
  have z1 := hb1.size
  have z2 := hb2.size
  have zl := S.lo
  have zh := S.hi
  have b2 : Below wx.heap.size wx w2 := hb1.trans (hb2.mono z1)
  refine ⟨((S.box.below b2 (by omega)).set 39 _).set 41 _, ((S.zero.below b2 (by omega)).far (by simp) _).far (by simp) _, zl, ?_, ?_, S.rlt, ?_, ?_, ?_, ?_⟩
  · show base ≤ (World.setCell _ _ _).heap.size; simp; omega
  · have h5 := own_below S.rd b2
    exact own_setCell (own_setCell h5 _ (own_ne h5 (by show w.heap.size < _; omega))) _ (own_ne h5 (by show w.heap.size < _; omega))
  · have h6 := own_below S.wt b2
    exact own_setCell (own_setCell h6 _ (own_ne h6 (by show w.heap.size < _; omega))) _ (own_ne h6 (by show w.heap.size < _; omega))
  · have h := (hn.up hb2).set (p := ⟨w.heap.size, 39, none⟩) (fun ad had => by have := hlo ad had; show ad.block ≠ w.heap.size; omega) (.slice A7 t.nw.n c7)
    have h' := h.set (p := ⟨w.heap.size, 41, none⟩) (fun ad had => by have := hlo ad had; show ad.block ≠ w.heap.size; omega) (.slice A9 t.ac.n c9)
    simpa using h'
  · intro ad had; have := hlo ad had; omega
  · exact ((S.below.trans (b2.mono (by omega))).setCell (Nat.le_refl _) _).setCell (Nat.le_refl _) _

theorem one_set {l : List Value} (h : l.all (·.oneCell') = true) (k : Nat) {v : Value} (hv : v.oneCell' = true) : (l.set k v).all (·.oneCell') = true := by
  rw [List.all_eq_true] at h ⊢
  intro x hx
  rcases List.mem_or_eq_of_mem_set hx with h' | rfl
  · exact h x h'
  · exact hv
def keptTa (t : Ta) (A4 A5 A6 A7 A8 A9 : Option Addr) (c4 c5 c6 c7 c8 c9 : Nat) : Ta where
  status := t.status
  gs := ⟨A4, t.gs.n, c4⟩
  rd := ⟨A5, t.rd.n, c5⟩
  wt := ⟨A6, t.wt.n, c6⟩
  nw := ⟨A7, t.nw.n, c7⟩
  dl := ⟨A8, t.dl.n, c8⟩
  ac := ⟨A9, t.ac.n, c9⟩
  cells := (((((t.cells.set 36 (.slice A4 t.gs.n c4)).set 37 (.slice A5 t.rd.n c5)).set 38 (.slice A6 t.wt.n c6)).set 39 (.slice A7 t.nw.n c7)).set 41 (.slice A9 t.ac.n c9)).set 40 (.slice A8 t.dl.n c8)
  size := by simp [t.size]
  one := one_set (one_set (one_set (one_set (one_set (one_set t.one 36 rfl) 37 rfl) 38 rfl) 39 rfl) 41 rfl) 40 rfl
  c36 := by simp [t.size, Sc.v]
  c37 := by simp [t.size, Sc.v]
  c38 := by simp [t.size, Sc.v]
  c39 := by simp [t.size, Sc.v]
  c40 := by simp [t.size, Sc.v]
  c41 := by simp [t.size, Sc.v]
  c42 := by simpa using t.c42
theorem st3_mk {w wx w3 : World} {t : Ta} {rs ws : List Cl} {ds : List Dl} {ns' : List Ob} {A4 A5 A6 A7 A8 A9 : Option Addr} {c4 c5 c6 c7 c8 c9 base : Nat} (T : St2 w wx t rs ws ns' A4 A5 A6 A7 A9 c4 c5 c6 c7 c9 base)
    (hgr : wx.grownBy w3 none) (hl : ws.length = t.wt.n) (hdl : ds.length = t.dl.n) (ho8 : w3.ownsRow wx.heap.size 64 5 (.slice A8 t.dl.n c8) t.dl.n (ds.flatMap Dl.cells)) :
    Kept w ((w3.setCell ⟨w.heap.size, 40, none⟩ (.slice A8 t.dl.n c8)).setCells (w.heap.size + 1) 0 (keptTa t A4 A5 A6 A7 A8 A9 c4 c5 c6 c7 c8 c9).cells) t (keptTa t A4 A5 A6 A7 A8 A9 c4 c5 c6 c7 c8 c9) rs ws ds ns' base := by
  obtain ⟨u, hu⟩ : ∃ u, u = Value.slice A8 t.dl.n c8 := ⟨_, rfl⟩
  rw [← hu]
  have g1 := grown1 w3 ⟨w.heap.size, 40, none⟩ u
  have g2 := grown_setCells (w.heap.size + 1) (keptTa t A4 A5 A6 A7 A8 A9 c4 c5 c6 c7 c8 c9).cells 0 (w3.setCell ⟨w.heap.size, 40, none⟩ u)
  have z0 := hgr.size
  have z1 := g1.size
  have z2 := g2.size
  have zl := T.lo
  have zh := T.hi
  have own : ∀ {b : Nat} {e : TypeId} {size : Nat} {A : Option Addr} {n c : Nat} {xs : List Value}, w3.ownsRow b e size (.slice A n c) n xs → w.heap.size + 2 ≤ b → ((w3.setCell ⟨w.heap.size, 40, none⟩ u).setCells (w.heap.size + 1) 0 (keptTa t A4 A5 A6 A7 A8 A9 c4 c5 c6 c7 c8 c9).cells).ownsRow b e size (.slice A n c) n xs := fun h hb =>
    (h.kept g1 (.inr (own_ne h (b := w.heap.size) (by omega)))).kept g2 (.inr (own_ne h (b := w.heap.size + 1) (by omega)))
  have old : ∀ {e : TypeId} {b size : Nat} {A : Option Addr} {n c : Nat} {xs : List Value}, wx.ownsRow b e size (.slice A n c) n xs → w3.ownsRow b e size (.slice A n c) n xs := fun h => h.kept hgr (by cases (Value.slice _ _ _).ownBlock <;> simp)
  have wt5 := own (old T.wt) zl
  have dl5 := own ho8 (by omega)
  refine ⟨by omega, rfl, rfl, rfl, rfl, rfl, own_mono (own (old T.rd) (Nat.le_refl _)) (by omega), T.rlt, ?_, own_lo T.wt (Nat.le_refl _), ?_, fun ad had => by have := own_lo ho8 (Nat.le_refl _) ad had; omega, ?_, T.nlo, ?_⟩
  · exact Sl.of_own Cl.size hl wt5
  · exact Sl.of_own Dl.size hdl dl5
  · have h1 := T.nw.apart (Nat.le_refl _) hgr (fun _ ad _ e => by cases e)
    have h2 := (h1.mono z0).apart (Nat.le_refl _) g1 (fun _ ad had e => by have := T.nlo ad had; injection e with e; have e : ad.block = w.heap.size := e; omega)
    have h3 := (h2.mono z1).apart (Nat.le_refl _) g2 (fun _ ad had e => by have := T.nlo ad had; injection e with e; omega)
    exact h3.mono z2
  · have b3 := T.below.grown hgr (by have := T.below.size; exact this) (fun k hk => by cases hk)
    have b4 := b3.setCell (p := ⟨w.heap.size, 40, none⟩) (Nat.le_refl _) u
    exact b4.grown g2 (by have := b4.size; exact this) (fun k hk => by cases hk; omega)

set_option maxRecDepth 100000 in
set_option maxHeartbeats 8000000 in
theorem keepT_any (t : Ta) (gl rs ws : List Cl) (ds : List Dl) (ns : List Ob) (al : List Ac) (w : World)
    (hg : Sl w w.heap.size 4 Cl.cells t.gs.A t.gs.n gl) (hgm : t.gs.n ≤ 4398046510976) (hr : Sl w w.heap.size 4 Cl.cells t.rd.A t.rd.n rs) (hm : t.rd.n ≤ 900000) (hd : Sl w w.heap.size 5 Dl.cells t.dl.A t.dl.n ds) (hdm : t.dl.n ≤ 900000)
    (hw : Sl w w.heap.size 4 Cl.cells t.wt.A t.wt.n ws) (hwm : t.wt.n ≤ 900000) (hq : Hp w w.heap.size t.nw.A t.nw.n ns) (hqm : t.nw.n ≤ 900000) (ha : Sl w w.heap.size 3 Ac.cells t.ac.A t.ac.n al) (ham : t.ac.n ≤ 5864062014634) :
    Calls Tryd.prog 5 #[.agg t.cells.toArray] w fun e w' => ∃ (t' : Ta) (ns' : List Ob) (base : Nat), e = .returned (.agg t'.cells.toArray) ∧ ns'.map Ob.po = ns.map Ob.po ∧ Kept w w' t t' rs ws ds ns' base := by
  have HG := Lib.hid hg
  have HR := Lib.hid hr
  have HD := Lib.hid hd
  have HW := Lib.hid hw
  have HN := Lib.hid hq
  have HA := Lib.hid ha
  clear hg hr hd hw hq ha
  obtain ⟨W, hW⟩ : ∃ W, W = (w.alloc (.cells t.cells.toArray 34)).alloc (.cells zeroT.toArray 34) := ⟨_, rfl⟩
  have hWb : Below w.heap.size w W := by rw [hW]; exact (by repeat (first | (with_reducible exact (Below.refl _ _)) | (with_reducible refine Below.drew ?_) | (with_reducible refine below_drewN ?_ _) | (with_reducible refine Below.setCell ?_ ?_ _; rotate_left; (first | omega | (simp <;> omega))) | (with_reducible refine Below.alloc ?_ ?_ _; rotate_left; (first | omega | (simp <;> omega)))))
  have hWz : W.heap.size = w.heap.size + 2 := by rw [hW]; simp
  have HX := Lib.hid (show Bx W w.heap.size t.cells from ⟨t.size, fun j v hv => by rw [hW, cell_old _ _ _ _ (by simp), cell_new _ _ _ _ _ rfl, List.getElem?_toArray, hv], fun j => (by rw [hW, frozen_old _ _ _ _ (by simp <;> omega), frozen_new _ _ _ _ _ (by simp <;> omega)])⟩)
  have HY := Lib.hid (show Bx W (w.heap.size + 1) zeroT from ⟨rfl, fun j v hv => by rw [hW, cell_new _ _ _ _ _ (by simp), List.getElem?_toArray, hv], fun j => (by rw [hW, frozen_new _ _ _ _ _ (by simp <;> omega)])⟩)
  have HB := Lib.hid hWb
  have HZ := Lib.hid hWz
  have q36 : W.cell? ⟨w.heap.size, 36, none⟩ = some (.slice t.gs.A t.gs.n t.gs.c) := HX.out.2.1 36 _ t.c36
  have q37 : W.cell? ⟨w.heap.size, 37, none⟩ = some (.slice t.rd.A t.rd.n t.rd.c) := HX.out.2.1 37 _ t.c37
  have q38 : W.cell? ⟨w.heap.size, 38, none⟩ = some (.slice t.wt.A t.wt.n t.wt.c) := HX.out.2.1 38 _ t.c38
  have hWl : w.heap.size < W.heap.size := by omega
  clear hWb hWz
  go_enter Tryd.func5, Tryd.ntmps5
  go_upto_region 1 with fail
  unfold zeroT at hW
  rw [← hW]
  clear hW
  go_cut [] (fun wx => ∃ (A4 A5 A6 : Option Addr) (c4 c5 c6 base : Nat), Hid (St1 w wx t rs ws A4 A5 A6 c4 c5 c6 base))
  case first =>
    go_region_law (first
        | (go_simp; go_at_call_of 10 (Value.slice t.gs.A t.gs.n t.gs.c); refine (keepCl_any t.gs.A t.gs.n t.gs.c gl W.drew (HG.out.up (Below.drew HB.out)) hgm).mono ?_; rintro e w1 ⟨A4, c4, rfl, _, hb1⟩; have hb1 : Below W.heap.size W w1 := (Below.drew (Below.refl _ _)).trans hb1; have r36 := (belc hb1 hWl).trans q36; have r37 := (belc hb1 hWl).trans q37; have r38 := (belc hb1 hWl).trans q38)
        | (go_simp; go_at_call_of 10 (Value.slice t.rd.A t.rd.n t.rd.c); refine (keepCl_any t.rd.A t.rd.n t.rd.c rs w1 (HR.out.up (HB.out.trans (hb1.mono HB.out.size))) (by omega)).mono ?_; rintro e w2 ⟨A5, c5, rfl, ho5, hb2⟩; have hz1 := hb1.size; have hb12 : Below W.heap.size W w2 := hb1.trans (hb2.mono hz1); have s36 := (belc hb12 hWl).trans q36; have s37 := (belc hb12 hWl).trans q37; have s38 := (belc hb12 hWl).trans q38)
        | (go_simp; go_at_call_of 10 (Value.slice t.wt.A t.wt.n t.wt.c); refine (keepCl_any t.wt.A t.wt.n t.wt.c ws w2 (HW.out.up (HB.out.trans (hb12.mono HB.out.size))) (by omega)).mono ?_; rintro e w3 ⟨A6, c6, rfl, ho6, hb3⟩; have hz2 := hb12.size; have hb13 : Below W.heap.size W w3 := hb12.trans (hb3.mono hz2); have u36 := (belc hb13 hWl).trans q36; have u37 := (belc hb13 hWl).trans q37; have u38 := (belc hb13 hWl).trans q38; have k36 := (belf hb13 hWl).trans (HX.out.2.2 36); have k37 := (belf hb13 hWl).trans (HX.out.2.2 37); have k38 := (belf hb13 hWl).trans (HX.out.2.2 38)))
    all_goals
      go_wp2_with fail
      go_meet
      exact ⟨A4, A5, A6, c4, c5, c6, w2.heap.size, Lib.hid (st1_mk HB.out HZ.out HX.out HY.out hb1 hb2 hb3 ho5.out ho6.out)⟩
  case rest =>
    obtain ⟨A4, A5, A6, c4, c5, c6, base, hS⟩ := hcut
    have q39 : wc.cell? ⟨w.heap.size, 39, none⟩ = some (.slice t.nw.A t.nw.n t.nw.c) := hS.out.box.2.1 39 _ (by simpa [Sc.v] using t.c39)
    have q41 : wc.cell? ⟨w.heap.size, 41, none⟩ = some (.slice t.ac.A t.ac.n t.ac.c) := hS.out.box.2.1 41 _ (by simpa [Sc.v] using t.c41)
    have hlc := hS.out.box.lt
    go_upto_region 2 with fail
    go_cut [] (fun wx => ∃ (A7 A9 : Option Addr) (c7 c9 : Nat) (ns' : List Ob), Hid (ns'.map Ob.po = ns.map Ob.po) ∧ Hid (St2 w wx t rs ws ns' A4 A5 A6 A7 A9 c4 c5 c6 c7 c9 base))
    case first =>
      go_region_law (first
        | (go_simp; go_at_call 11; refine (objects_any t.nw.A t.nw.n t.nw.c ns wc.drew (HN.out.up (Below.drew hS.out.below)) (by omega)).mono ?_; rintro e w1 ⟨A7, c7, ns', rfl, hpo, hp7, hfr7, hb1⟩; have hb1 : Below wc.heap.size wc w1 := (Below.drew (Below.refl _ _)).trans hb1; have r39 := (belc hb1 hlc).trans q39; have r41 := (belc hb1 hlc).trans q41)
        | (go_simp; go_at_call 12; refine (keepAc_any t.ac.A t.ac.n t.ac.c al w1 (HA.out.up (hS.out.below.trans (hb1.mono hS.out.below.size))) ham).mono ?_; rintro e w2 ⟨A9, c9, rfl, _, hb2⟩; have hz1 := hb1.size; have hb12 : Below wc.heap.size wc w2 := hb1.trans (hb2.mono hz1); have s39 := (belc hb12 hlc).trans q39; have s41 := (belc hb12 hlc).trans q41; have k39 := (belf hb12 hlc).trans (hS.out.box.2.2 39); have k41 := (belf hb12 hlc).trans (hS.out.box.2.2 41)))
      all_goals
        go_wp2_with fail
        go_meet
        exact ⟨A7, A9, c7, c9, ns', Lib.hid hpo, Lib.hid (st2_mk hS.out hb1 hb2 hp7.out.sl hfr7.out.1)⟩
    case rest =>
      obtain ⟨A7, A9, c7, c9, ns', hpo, hT⟩ := hcut
      have q40 : wc.cell? ⟨w.heap.size, 40, none⟩ = some (.slice t.dl.A t.dl.n t.dl.c) := hT.out.box.2.1 40 _ (by simpa [Sc.v] using t.c40)
      have hlc := hT.out.box.lt
      obtain ⟨i0, hi, hz0, hz1, hz2⟩ := info_parts infoDl
      have HSD := Lib.hid ((HD.out.up hT.out.below).src Dl.size)
      have HDL := Lib.hid HD.out.len
      go_upto_region 4 with (at_builtin; refine wpList_append_any rfl _ _ 31 rfl wc.heap.size 64 i0 _ 5 40 Tryd.underlying31 hi hz0 hz1 hz2 rfl (by decide) (.slice none 0 0) 0 [] (by simp [Act.eval]) (World.ownsRow_nil _ _ _ _) t.dl.A t.dl.n t.dl.c (ds.flatMap Dl.cells) (by simp [Act.eval]) HSD.out.1 (by rw [flat_len Dl.size, HDL.out]) HSD.out.2 (Dl_one ds) (by unfold maxLen; omega) (by omega) (Nat.le_refl _) ?_; intro A8 c8 w3 hown3 hgr3 hA3; have H3 := Lib.hid hown3; have HG3 := Lib.hid (show wc.grownBy w3 none from hgr3); have r40 := ((gcell HG3.out).1 w.heap.size 40 hlc (by simp)).trans q40; have f40 := ((gcell HG3.out).2 w.heap.size 40 hlc (by simp)).trans (hT.out.box.2.2 40); clear hown3 hgr3 hA3)
      have HK := Lib.hid (st3_mk hT.out HG3.out HW.out.len HDL.out (own_eq (Nat.zero_add _) H3.out))
      have HBX := Lib.hid (show Bx (w3.setCell ⟨w.heap.size, 40, none⟩ (.slice A8 t.dl.n c8)) w.heap.size (keptTa t A4 A5 A6 A7 A8 A9 c4 c5 c6 c7 c8 c9).cells from (hT.out.box.grown HG3.out hlc (by simp)).set 40 _)
      have HBY := Lib.hid (show Bx (w3.setCell ⟨w.heap.size, 40, none⟩ (.slice A8 t.dl.n c8)) (w.heap.size + 1) zeroT from (hT.out.zero.grown HG3.out hT.out.zero.lt (by simp)).far (by simp) _)
      have HBZ := Lib.hid (HBY.out.all (keptTa t A4 A5 A6 A7 A8 A9 c4 c5 c6 c7 c8 c9).cells (keptTa t A4 A5 A6 A7 A8 A9 c4 c5 c6 c7 c8 c9).size)
      obtain ⟨X, hX⟩ : ∃ X, X = w3.setCell ⟨w.heap.size, 40, none⟩ (.slice A8 t.dl.n c8) := ⟨_, rfl⟩
      rw [← hX] at HK HBX HBY HBZ ⊢
      clear hX r40 f40 q40 q39 q41
      go_wp2_with (first | (with_reducible refine wpList_load_ta rfl (.tmp 1) rfl (by simp [Act.eval]) HBX.out.ta ?_) | (with_reducible refine wpList_store_ta rfl (.tmp 2) (.tmp 27) rfl (keptTa t A4 A5 A6 A7 A8 A9 c4 c5 c6 c7 c8 c9) (by simp [Act.eval, Act.put]) HBY.out (by simp [Act.eval, Act.put]) ?_))
      refine bodyPost_ret (v := .agg (keptTa t A4 A5 A6 A7 A8 A9 c4 c5 c6 c7 c8 c9).cells.toArray) (results_ta rfl HBZ.out) rfl ?_
      exact ⟨_, ns', base, rfl, hpo.out, HK.out⟩
end Go.Proofs.YtfhpniafkkgibaaDoor
