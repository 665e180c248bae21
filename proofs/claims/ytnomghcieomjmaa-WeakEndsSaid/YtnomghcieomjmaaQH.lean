/- A move is made: the walk's beginning. -/
import Derived.Test.YtnomghcieomjmaaP
import Derived.Deep.DeepCutAuto
import Derived.Deep.CutBlock
import Derived.Deep.LoopGhost
namespace Go.Proofs.Ytnomghcieomjmaa
open Go.RowKit
def row17 (w : World) (b o : Nat) : Array Value := ((List.range 17).map fun j => (w.cell? ⟨b, o + j, none⟩).getD undef).toArray
def row17V (w : World) : Value → Array Value
  | .pointer (some ⟨b, o, none⟩) => row17 w b o
  | _ => #[]
def There17 (w : World) (v : Value) : Prop := ∃ b o t, v = .pointer (some ⟨b, o, none⟩) ∧ TrAt w b o t
theorem row17_at {w : World} {b o : Nat} {t : Tr} (h : TrAt w b o t) : row17 w b o = t.cells.toArray := by
  unfold row17
  congr 1
  apply List.ext_getElem?
  intro j
  by_cases hj : j < 17
  · have hc : t.cells[j]? = some (t.cells[j]'hj) := List.getElem?_eq_getElem hj
    rw [List.getElem?_map, List.getElem?_range hj, hc, Option.map_some, h j _ hc]
    rfl
  · rw [List.getElem?_eq_none (by simp; omega), List.getElem?_eq_none (by rw [Tr.size]; omega)]
theorem exec17 (ρ : Operand → Value) (x : Operand) (d : Option Nat) (ty : TypeId) (pos : String) (af : Array Edge) (gd : Option (Nat × Bool)) (w : World) (h : There17 w (ρ x)) :
    Sem.run Try.prog (execOp ρ { dst := d, op := .load 47 x, type := ty, pos := pos, after := af, guard := gd }) w = .ok (.value (.agg (row17V w (ρ x)))) w := by
  obtain ⟨b, o, t, hv, ht⟩ := h
  have h1 := run_loadAt_mid (P := Try.prog) w b o _ t.cells _ (fun j v hv => ht j v hv) Try.underlying47 rfl tr_agg
  unfold execOp
  simp only [hv, Sem.run_bind, h1, Result.andThen_ok, Sem.run_pure, row17V, row17_at ht]
attribute [local go_sem ↓] exec17

theorem formed_of_scan : ∀ {l : List POp} {us : List Int}, scanB us l = true → ∀ o ∈ l, formedB o = true
  | [], _, _, _, h => by simp at h
  | x :: l, us, h, o, ho => by
    unfold scanB at h
    simp only [Bool.and_eq_true] at h
    rcases List.mem_cons.1 ho with rfl | ho
    · exact h.1.1
    · exact formed_of_scan h.2 o ho
theorem word_of_formed {o : POp} (h : formedB o = true) : 0 ≤ o.word ∧ o.word ≤ 3 := by
  unfold formedB at h
  simp only [Bool.and_eq_true] at h
  have h1 := h.1.1.1.2
  unfold fitsB at h1
  simp only [Bool.or_eq_true, Bool.and_eq_true, decide_eq_true_eq] at h1
  omega
theorem formed_of_valid {ths : List (List POp)} (h : validT ths = true) {k i : Nat} {l : List POp} {o : POp} (hl : ths[k]? = some l) (ho : l[i]? = some o) : formedB o = true := by
  unfold validT at h
  simp only [Bool.and_eq_true, List.all_eq_true] at h
  have h1 := h.2 l (List.mem_of_getElem? hl)
  unfold threadB at h1
  simp only [Bool.and_eq_true] at h1
  exact formed_of_scan h1.2 o (List.mem_of_getElem? ho)
theorem short_of_valid {ths : List (List POp)} (h : validT ths = true) {l : List POp} (hl : l ∈ ths) : l.length ≤ 8 := by
  unfold validT at h
  simp only [Bool.and_eq_true, List.all_eq_true] at h
  have h1 := h.2 l hl
  unfold threadB at h1
  simp only [Bool.and_eq_true, decide_eq_true_eq] at h1
  exact h1.1
theorem few_of_valid {ths : List (List POp)} (h : validT ths = true) : 1 ≤ ths.length ∧ ths.length ≤ 3 := by
  unfold validT at h
  simp only [Bool.and_eq_true, decide_eq_true_eq] at h
  exact h.1

/-- An operation at a place. -/
def OpAt (w : World) (b : Nat) (o : POp) : Prop := w.cell? ⟨b, 0, none⟩ = some (.int .i64 o.kind) ∧ w.cell? ⟨b, 1, none⟩ = some (.int .i64 o.word) ∧ w.cell? ⟨b, 2, none⟩ = some (.int .i64 o.n) ∧ w.cell? ⟨b, 3, none⟩ = some (.int .i64 o.m) ∧ w.cell? ⟨b, 4, none⟩ = some (.int .i64 o.reg)
/-- Where the walk stands behind the copy. -/
structure DoAt (w wx : World) (mem : Nat → Int) (g n c : Nat) (ts : List Tr) (v : Mv) : Prop where
  s : StAt wx w.heap.size mem (some ⟨g, 0, none⟩) n c
  r : StAt wx (w.heap.size + 2) (fun _ => 0) none 0 0
  v0 : wx.cell? ⟨w.heap.size + 1, 0, none⟩ = some (.int .i64 v.thread)
  v1 : wx.cell? ⟨w.heap.size + 1, 1, none⟩ = some (.int .i64 v.op)
  v2 : wx.cell? ⟨w.heap.size + 1, 2, none⟩ = some (.int .i64 v.store)
  own : OwnSt wx (w.heap.size + 3) g ts
  bel : Below w.heap.size w wx
  sz : w.heap.size + 3 ≤ wx.heap.size
theorem OwnSt.base {w : World} {B B' g : Nat} {ts : List Tr} (h : OwnSt w B' g ts) (hb : B ≤ B') : OwnSt w B g ts := ⟨h.lt, Nat.le_trans hb h.lo, h.at_, h.fr, fun t ht => own_base (h.own t ht) hb, h.ne, h.apart⟩
theorem DoAt.below {w wx wy : World} {mem : Nat → Int} {g n c : Nat} {ts : List Tr} {v : Mv} (h : DoAt w wx mem g n c ts v) (hb : Below wx.heap.size wx wy) : DoAt w wy mem g n c ts v :=
  ⟨h.s.below hb (by have := h.sz; omega), h.r.below hb (by have := h.sz; omega), (belc hb (by have := h.sz; omega)).trans h.v0, (belc hb (by have := h.sz; omega)).trans h.v1, (belc hb (by have := h.sz; omega)).trans h.v2, h.own.below hb, h.bel.trans (hb.mono h.bel.size), Nat.le_trans h.sz hb.size⟩

theorem DoAt.setTr {w wx : World} {mem : Nat → Int} {g n c : Nat} {ts : List Tr} {v : Mv} (h : DoAt w wx mem g n c ts v) {k : Nat} {t : Tr} (ht : ts[k]? = some t) {d : Nat → Bool} {r : Nat → Int} {j : Nat} (hj : j < 17) {u : Value} (hn : TrAt (wx.setCell ⟨g, k * 17 + j, none⟩ u) g (k * 17) ⟨d, r, t.A, t.n, t.c, t.q⟩) : DoAt w (wx.setCell ⟨g, k * 17 + j, none⟩ u) mem g n c (ts.set k ⟨d, r, t.A, t.n, t.c, t.q⟩) v := by
  have hg := h.own.lo
  refine ⟨h.s.other (by show g ≠ _; omega) _, h.r.other (by show g ≠ _; omega) _, ?_, ?_, ?_, h.own.set1 ht hj hn, h.bel.setCell (by show _ ≤ g; omega) _, by simpa using h.sz⟩
  · rw [set_other _ _ _ _ (by intro e; injection e with e1 e2; omega)]; exact h.v0
  · rw [set_other _ _ _ _ (by intro e; injection e with e1 e2; omega)]; exact h.v1
  · rw [set_other _ _ _ _ (by intro e; injection e with e1 e2; omega)]; exact h.v2
theorem DoAt.setMem {w wx : World} {mem : Nat → Int} {g n c : Nat} {ts : List Tr} {v : Mv} (h : DoAt w wx mem g n c ts v) {i : Nat} (hi : i < 4) (x : Int) : DoAt w (wx.setCell ⟨w.heap.size, i, none⟩ (.int .i64 x)) (upd mem i x) g n c ts v := by
  refine ⟨h.s.setMem hi x, h.r.other (by show w.heap.size ≠ w.heap.size + 2; omega) _, ?_, ?_, ?_, h.own.low (by show w.heap.size < _; omega) _, h.bel.setCell (Nat.le_refl _) _, by simpa using h.sz⟩
  · rw [set_other _ _ _ _ (by intro e; injection e with e1 e2; omega)]; exact h.v0
  · rw [set_other _ _ _ _ (by intro e; injection e with e1 e2; omega)]; exact h.v1
  · rw [set_other _ _ _ _ (by intro e; injection e with e1 e2; omega)]; exact h.v2
theorem OpAt.below {w w' : World} {b : Nat} {o : POp} (h : OpAt w b o) (hb : Below w.heap.size w w') (hl : b < w.heap.size) : OpAt w' b o :=
  ⟨(belc hb hl).trans h.1, (belc hb hl).trans h.2.1, (belc hb hl).trans h.2.2.1, (belc hb hl).trans h.2.2.2.1, (belc hb hl).trans h.2.2.2.2⟩
theorem OpAt.other {w : World} {b : Nat} {o : POp} (h : OpAt w b o) {p : Addr} (hp : p.block ≠ b) (u : Value) : OpAt (w.setCell p u) b o := by
  have hne : ∀ j, (w.setCell p u).cell? ⟨b, j, none⟩ = w.cell? ⟨b, j, none⟩ := fun j => by rw [set_other _ _ _ _ (by intro e; have := congrArg Addr.block e; simp only at this; omega)]
  exact ⟨(hne 0).trans h.1, (hne 1).trans h.2.1, (hne 2).trans h.2.2.1, (hne 3).trans h.2.2.2.1, (hne 4).trans h.2.2.2.2⟩
/-- Where the switch's ways meet. -/
structure After (w wx : World) (mem' : Nat → Int) (g : Nat) (ts : List Tr) (c k : Nat) (t' : Tr) : Prop where
  s : StAt wx w.heap.size mem' (some ⟨g, 0, none⟩) ts.length c
  r : StAt wx (w.heap.size + 2) (fun _ => 0) none 0 0
  f : Sts wx wx.heap.size (some ⟨g, 0, none⟩) ts.length (ts.set k t')
  l : ∀ t ∈ ts.set k t', ∀ ad, t.A = some ad → w.heap.size + 3 ≤ ad.block
  b : Below w.heap.size w wx
  z : w.heap.size + 3 ≤ wx.heap.size
  m : t'.n ≤ t'.c ∧ t'.c ≤ 9223372036854775807 ∧ t'.n ≤ 1000
theorem upd_upd {β : Type} (f : Nat → β) (i : Nat) (a b : β) : upd (upd f i a) i b = upd f i b := by
  funext j
  simp only [upd]
  split <;> rfl
theorem sts_of_own {w : World} {B g k : Nat} {ts : List Tr} {t' : Tr} (h : OwnSt w B g (ts.set k t')) (hn : ∀ t ∈ ts.set k t', t.q.length = t.n) : Sts w w.heap.size (some ⟨g, 0, none⟩) ts.length (ts.set k t') := by
  have := h.sts hn
  rwa [List.length_set] at this
theorem OwnSt.lows0 {w : World} {B g : Nat} {ts : List Tr} (h : OwnSt w B g ts) : ∀ t ∈ ts, ∀ ad, t.A = some ad → B ≤ ad.block := fun t ht ad e => by
  have := h.own t ht
  rw [e] at this
  exact (own_block_lt this rfl).1
theorem DoAt.after {w wx : World} {mem' : Nat → Int} {g c k : Nat} {ts : List Tr} {v : Mv} {t' : Tr} (h : DoAt w wx mem' g ts.length c (ts.set k t') v) (hl : ∀ t ∈ ts, t.q.length = t.n) (h' : t'.q.length = t'.n) (hm : t'.n ≤ t'.c ∧ t'.c ≤ 9223372036854775807 ∧ t'.n ≤ 1000) : After w wx mem' g ts c k t' :=
  ⟨h.s, h.r, sts_of_own h.own (fun t ht => by
    rcases List.mem_or_eq_of_mem_set ht with ht | rfl
    · exact hl t ht
    · exact h'), h.own.lows0, h.bel, h.sz, hm⟩
theorem len_set {ts : List Tr} (h : ∀ t ∈ ts, t.q.length = t.n) {k : Nat} {t' : Tr} (h' : t'.q.length = t'.n) : ∀ t ∈ ts.set k t', t.q.length = t.n := fun t ht => by
  rcases List.mem_or_eq_of_mem_set ht with ht | rfl
  · exact h t ht
  · exact h'
/-- What Do gives. -/
def GivesDo (m : Int) (ths : List (List POp)) (mem : Nat → Int) (pts : List Pt) (v : Mv) (w : World) (e : Ending) (w' : World) : Prop :=
  (validT ths = false ∧ GivesSt mem0 [] 1 w e w') ∨ (validT ths = true ∧ ¬ v ∈ movesP m ths pts ∧ GivesSt mem0 [] 7 w e w') ∨ (v ∈ movesP m ths pts ∧ ∃ mem' pts', Stp m ths mem pts v mem' pts' ∧ GivesSt mem' pts' 0 w e w')
def Words (ts : List Tr) : Prop := ∀ t ∈ ts, ∀ x ∈ t.q, 0 ≤ x.word ∧ x.word ≤ 3

theorem fin_gives {w we wf : World} {g k c1 : Nat} {mem' : Nat → Int} {ts2 : List Tr} {t' : Tr} {pts : List Pt} (EF : Sts we we.heap.size (some ⟨g, 0, none⟩) ts2.length (ts2.set k t')) (EL : ∀ t ∈ ts2.set k t', ∀ ad, t.A = some ad → w.heap.size + 3 ≤ ad.block)
    (hgr : we.grownBy wf (some (w.heap.size + 2))) (hg : w.heap.size + 3 ≤ g) (EB : Below w.heap.size w we) (hz : w.heap.size + 3 ≤ we.heap.size) (hpt : ts2.map Tr.pt = pts) (hr : ∀ t ∈ ts2, t.n ≤ t.c ∧ t.c ≤ 9223372036854775807 ∧ t.n ≤ 900) (hr' : t'.n ≤ t'.c ∧ t'.c ≤ 9223372036854775807 ∧ t'.n ≤ 1000) (hc : ts2.length ≤ c1) (hc2 : c1 ≤ 9223372036854775807) :
    GivesSt mem' (pts.set k t'.pt) 0 w (.returned (.tuple #[stVal mem' (some ⟨g, 0, none⟩) ts2.length c1, .int .i64 0])) wf := by
  refine ⟨some ⟨g, 0, none⟩, _, _, ts2.set k t', rfl, ?_, fun t ht => ?_, by rw [List.map_set, hpt], EB.grown hgr (by omega) (fun j e => by cases e; omega), hc, hc2, (fun ad e => by injection e with e; subst e; show _ ≤ g; omega), fun t ht ad e => by have := EL t ht ad e; omega⟩
  · have := EF.grownLow hgr (by omega) (fun t ht ad e => by have := EL t ht ad e; omega)
    exact this
  · rcases List.mem_or_eq_of_mem_set ht with ht | rfl
    · have := hr t ht
      exact ⟨this.1, this.2.1, by omega⟩
    · exact hr'

/-- Which arm of Do a move takes. -/
def opArm (m kd : Int) : Nat := if kd = 1 then (if queuesB m then 0 else 1) else if kd = 2 then 2 else if kd = 4 then 3 else 4
def subArm (m : Int) (ths : List (List POp)) (v : Mv) : Nat := if v.op < 0 then 5 else match ths[v.thread.toNat]? with
  | some l => match l[v.op.toNat]? with
    | some o => opArm m o.kind
    | none => 4
  | none => 4
def armOf (m : Int) (ths : List (List POp)) (pts : List Pt) (v : Mv) : Nat := if validT ths && decide (v ∈ movesP m ths pts) then subArm m ths v else 6
theorem opArm_le (m kd : Int) : opArm m kd ≤ 4 := by
  unfold opArm
  split
  · split <;> omega
  · split
    · omega
    · split <;> omega
theorem subArm_le (m : Int) (ths : List (List POp)) (v : Mv) : subArm m ths v ≤ 5 := by
  unfold subArm
  split
  · omega
  · split
    · split
      · have := opArm_le m; rename_i o _; have := this o.kind; omega
      · omega
    · omega
theorem armOf_le (m : Int) (ths : List (List POp)) (pts : List Pt) (v : Mv) : armOf m ths pts v ≤ 6 := by
  unfold armOf
  split
  · have := subArm_le m ths v; omega
  · omega
theorem armOf_in {m : Int} {ths : List (List POp)} {pts : List Pt} {v : Mv} (h1 : validT ths = true) (h2 : v ∈ movesP m ths pts) : armOf m ths pts v = subArm m ths v := by
  unfold armOf; rw [h1, decide_eq_true h2]; rfl
theorem armOf_bad {m : Int} {ths : List (List POp)} {pts : List Pt} {v : Mv} (h1 : validT ths = false) : armOf m ths pts v = 6 := by
  unfold armOf; rw [h1]; rfl
theorem armOf_out {m : Int} {ths : List (List POp)} {pts : List Pt} {v : Mv} (h2 : ¬ v ∈ movesP m ths pts) : armOf m ths pts v = 6 := by
  unfold armOf; rw [decide_eq_false h2, Bool.and_false]; rfl
theorem subArm_st (m : Int) (ths : List (List POp)) (k i : Nat) : subArm m ths ⟨k, -1, i⟩ = 5 := rfl
theorem subArm_op {m : Int} {ths : List (List POp)} {k i : Nat} {l : List POp} {o : POp} (hl : ths[k]? = some l) (ho : l[i]? = some o) : subArm m ths ⟨k, i, 0⟩ = opArm m o.kind := by
  unfold subArm
  simp only [Int.toNat_natCast, hl]
  rw [if_neg (by omega), ho]
end Go.Proofs.Ytnomghcieomjmaa
