/- The arguments of the law: a heap and a task. -/
import Derived.Test.YtfhpniafkkgibaaDoorL
import Derived.Test.YtfhpniafkkgibaaDoorOpen
import Derived.OpenShut
namespace Go.Proofs.YtfhpniafkkgibaaDoor
open Go.ChangeShapes Go.WideShapes Go.ChangeAt Go.RowKit Go.Deep
section
variable {H : Type} {enc : TypeId × Value → H} {W : World}
theorem bytesV : Tryd.prog.bytesOf 26 = 16 := by kernel_rfl
theorem bytesO : Tryd.prog.bytesOf 39 = 32 := by kernel_rfl
theorem bytesC : Tryd.prog.bytesOf 42 = 32 := by kernel_rfl
theorem bytesD : Tryd.prog.bytesOf 64 = 40 := by kernel_rfl
theorem bytesA : Tryd.prog.bytesOf 123 = 24 := by kernel_rfl
theorem el_val : ∀ n cs (y : DataW H × List MemPlace), cs.length = 2 → DataW.trod enc Tryd.prog W 0 (fun _ => true) true n 26 cs = some y → SmallD Tryd.prog 26 y.1 → ∃ x : Val, cs = x.cells ∧ (-9223372036854775808 ≤ x.n ∧ x.n ≤ 9223372036854775807) := by
  intro n cs y hl h hsm
  have hf := trod_fields2 Tryd.underlying26 (by kernel_rfl) hl h hsm
  obtain ⟨v0, y0, n0, h0, t0, -⟩ := hf 0 _ rfl
  obtain ⟨v1, y1, n1, h1, t1, -⟩ := hf 1 _ rfl
  obtain ⟨b, e0, _⟩ := DataW.trod_bool Tryd.underlying4 t0
  obtain ⟨z, e1, _, hw⟩ := DataW.trod_int Tryd.underlying2 t1
  simp at e0 e1
  subst e0 e1
  refine ⟨⟨b, z⟩, ?_, wf_i64 hw⟩
  match cs, hl, h0, h1 with
  | [a, c], _, h0, h1 => simp at h0 h1; subst h0 h1; rfl
/-- What is known of an object that came in. -/
def OkOb (W : World) (x : Ob) : Prop := Sl W W.heap.size 2 Val.cells x.A x.n x.s ∧ x.n ≤ 8796093021952 ∧ (Lit.int .i64 x.id).wf = true
theorem el_obj : ∀ n cs (y : DataW H × List MemPlace), cs.length = 2 → DataW.trod enc Tryd.prog W 0 (fun _ => true) true n 39 cs = some y → SmallD Tryd.prog 39 y.1 → ∃ x : Ob, cs = x.cells ∧ OkOb W x := by
  intro n cs y hl h hsm
  have hf := trod_fields2 Tryd.underlying39 (by kernel_rfl) hl h hsm
  obtain ⟨v0, y0, n0, h0, t0, -⟩ := hf 0 _ rfl
  obtain ⟨v1, y1, n1, h1, t1, hs1⟩ := hf 1 _ rfl
  obtain ⟨z, e0, _, hw⟩ := DataW.trod_int Tryd.underlying2 t0
  obtain ⟨A, m, c, s, e1, hmc, hc, hw1, _, hsl, _⟩ := open_sl2 Tryd.underlying37 (by kernel_rfl) (by decide) t1 hs1 el_val
  simp at e0 e1
  subst e0 e1
  rw [bytesV] at hw1
  refine ⟨⟨z, A, m, c, s⟩, ?_, hsl, by show m ≤ _; omega, hw⟩
  match cs, hl, h0, h1 with
  | [a, d], _, h0, h1 => simp at h0 h1; subst h0 h1; rfl
/-- A struct: the field at a place, of one cell. -/
theorem trod_cell {e : TypeId} {fs : Array Field} {fuel : Nat} {cs : List Value} {x : DataW H × List MemPlace} (he : Tryd.prog.underlying e = some (.struct fs)) (h : DataW.trod enc Tryd.prog W 0 (fun _ => true) true fuel e cs = some x) (hsm : SmallD Tryd.prog e x.1)
    (j : Nat) (f : Field) (hj : fs[j]? = some f) (hc : Tryd.prog.cellsOf f.type = 1) (ho : f.offset < cs.length) :
    ∃ (v : Value) (y : DataW H × List MemPlace) (n : Nat), cs[f.offset]? = some v ∧ DataW.trod enc Tryd.prog W 0 (fun _ => true) true n f.type [v] = some y ∧ SmallD Tryd.prog f.type y.1 := by
  obtain ⟨ys, n', hn', hy, hlen, hyl, hf⟩ := DataW.trod_struct he h
  have h1 := hf j f hj
  rw [hc] at h1
  have e1 : (cs.drop f.offset).take 1 = [cs[f.offset]'ho] := by
    rw [List.drop_eq_getElem_cons ho]
    rfl
  rw [e1] at h1
  have hjl : j < fs.size := (Array.getElem?_eq_some_iff.1 hj).1
  have hys : ys[j]? = some (ys[j]'(by omega)) := List.getElem?_eq_getElem (by omega)
  refine ⟨_, _, _, List.getElem?_eq_getElem ho, h1.trans hys, fun k hk => ?_⟩
  refine hsm k ?_
  rw [hy]
  simp only [DataW.weights, he]
  exact DataW.weights_mem_each (j := j) (by rw [List.getElem?_map, Array.getElem?_toList, hj]; rfl) (by rw [List.getElem?_map, hys]; rfl) k hk
/-- .. of two cells. -/
theorem trod_cell2 {e : TypeId} {fs : Array Field} {fuel : Nat} {cs : List Value} {x : DataW H × List MemPlace} (he : Tryd.prog.underlying e = some (.struct fs)) (h : DataW.trod enc Tryd.prog W 0 (fun _ => true) true fuel e cs = some x) (hsm : SmallD Tryd.prog e x.1)
    (j : Nat) (f : Field) (hj : fs[j]? = some f) (hc : Tryd.prog.cellsOf f.type = 2) (ho : f.offset + 1 < cs.length) :
    ∃ (y : DataW H × List MemPlace) (n : Nat), DataW.trod enc Tryd.prog W 0 (fun _ => true) true n f.type ((cs.drop f.offset).take 2) = some y ∧ SmallD Tryd.prog f.type y.1 := by
  obtain ⟨ys, n', hn', hy, hlen, hyl, hf⟩ := DataW.trod_struct he h
  have h1 := hf j f hj
  rw [hc] at h1
  have hjl : j < fs.size := (Array.getElem?_eq_some_iff.1 hj).1
  have hys : ys[j]? = some (ys[j]'(by omega)) := List.getElem?_eq_getElem (by omega)
  refine ⟨_, _, h1.trans hys, fun k hk => ?_⟩
  refine hsm k ?_
  rw [hy]
  simp only [DataW.weights, he]
  exact DataW.weights_mem_each (j := j) (by rw [List.getElem?_map, Array.getElem?_toList, hj]; rfl) (by rw [List.getElem?_map, hys]; rfl) k hk
set_option maxRecDepth 100000 in
theorem el_cl : ∀ n cs (y : DataW H × List MemPlace), cs.length = 4 → DataW.trod enc Tryd.prog W 0 (fun _ => true) true n 42 cs = some y → SmallD Tryd.prog 42 y.1 → ∃ x : Cl, cs = x.cells ∧ (Lit.int .i64 x.id).wf = true := by
  intro n cs y hl h hsm
  obtain ⟨v0, y0, n0, h0, t0, -⟩ := trod_cell Tryd.underlying42 h hsm 0 _ rfl (by kernel_rfl) (by rw [hl]; decide)
  obtain ⟨v1, y1, n1, h1, t1, -⟩ := trod_cell Tryd.underlying42 h hsm 1 _ rfl (by kernel_rfl) (by rw [hl]; decide)
  obtain ⟨y2, n2, t2, s2⟩ := trod_cell2 Tryd.underlying42 h hsm 2 _ rfl (by kernel_rfl) (by rw [hl]; decide)
  obtain ⟨z0, e0, _, hw⟩ := DataW.trod_int Tryd.underlying2 t0
  obtain ⟨z1, e1, _, _⟩ := DataW.trod_int Tryd.underlying3 t1
  obtain ⟨x2, e2, _⟩ := el_val _ _ _ (by simp; omega) t2 s2
  simp at e0 e1
  subst e0 e1
  refine ⟨⟨z0, z1, x2.ref, x2.n⟩, ?_, hw⟩
  match cs, hl, h0, h1, e2 with
  | [a, b, c, d], _, h0, h1, e2 => simp at h0 h1; simp [Val.cells] at e2; obtain ⟨rfl, rfl⟩ := e2; subst h0 h1; rfl
set_option maxRecDepth 100000 in
theorem el_dl : ∀ n cs (y : DataW H × List MemPlace), cs.length = 5 → DataW.trod enc Tryd.prog W 0 (fun _ => true) true n 64 cs = some y → SmallD Tryd.prog 64 y.1 → ∃ x : Dl, cs = x.cells ∧ True := by
  intro n cs y hl h hsm
  obtain ⟨v0, y0, n0, h0, t0, -⟩ := trod_cell Tryd.underlying64 h hsm 0 _ rfl (by kernel_rfl) (by rw [hl]; decide)
  obtain ⟨v1, y1, n1, h1, t1, -⟩ := trod_cell Tryd.underlying64 h hsm 1 _ rfl (by kernel_rfl) (by rw [hl]; decide)
  obtain ⟨v3, y3, n3, h3, t3, -⟩ := trod_cell Tryd.underlying64 h hsm 2 _ rfl (by kernel_rfl) (by rw [hl]; decide)
  obtain ⟨y2, n2, t2, s2⟩ := trod_cell2 Tryd.underlying64 h hsm 3 _ rfl (by kernel_rfl) (by rw [hl]; decide)
  obtain ⟨z0, e0, _, hw⟩ := DataW.trod_int Tryd.underlying2 t0
  obtain ⟨z1, e1, _, _⟩ := DataW.trod_int Tryd.underlying3 t1
  obtain ⟨z3, e3, _, _⟩ := DataW.trod_int Tryd.underlying3 t3
  obtain ⟨x2, e2, _⟩ := el_val _ _ _ (by simp; omega) t2 s2
  simp at e0 e1 e3
  subst e0 e1 e3
  refine ⟨⟨z0, z1, z3, x2.ref, x2.n⟩, ?_, trivial⟩
  match cs, hl, h0, h1, h3, e2 with
  | [a, b, e, c, d], _, h0, h1, h3, e2 => simp at h0 h1 h3; simp [Val.cells] at e2; obtain ⟨rfl, rfl⟩ := e2; subst h0 h1 h3; rfl
theorem el_ac : ∀ n cs (y : DataW H × List MemPlace), cs.length = 3 → DataW.trod enc Tryd.prog W 0 (fun _ => true) true n 123 cs = some y → SmallD Tryd.prog 123 y.1 → ∃ x : Ac, cs = x.cells ∧ True := by
  intro n cs y hl h hsm
  have hf := trod_fields2 Tryd.underlying123 (by kernel_rfl) hl h hsm
  obtain ⟨v0, y0, n0, h0, t0, -⟩ := hf 0 _ rfl
  obtain ⟨v1, y1, n1, h1, t1, -⟩ := hf 1 _ rfl
  obtain ⟨v2, y2, n2, h2, t2, -⟩ := hf 2 _ rfl
  obtain ⟨b, e0, _⟩ := DataW.trod_bool Tryd.underlying4 t0
  obtain ⟨z1, e1, _, _⟩ := DataW.trod_int Tryd.underlying2 t1
  obtain ⟨z2, e2, _, _⟩ := DataW.trod_int Tryd.underlying2 t2
  simp at e0 e1 e2
  subst e0 e1 e2
  refine ⟨⟨b, z1, z2⟩, ?_, trivial⟩
  match cs, hl, h0, h1, h2 with
  | [a, c, d], _, h0, h1, h2 => simp at h0 h1 h2; subst h0 h1 h2; rfl
theorem open_objs {fuel : Nat} {cs : List Value} {y : DataW H × List MemPlace} (h : DataW.trod enc Tryd.prog W 0 (fun _ => true) true fuel 22 cs = some y) (hsm : SmallD Tryd.prog 22 y.1) :
    ∃ A n c l, cs = [.slice A n c] ∧ Hp W W.heap.size A n l ∧ n ≤ 4398046510976 ∧ ∀ o ∈ l, (Lit.int .i64 o.id).wf = true := by
  obtain ⟨A, n, c, l, rfl, hnc, hc, hw, hnul, hsl, hok⟩ := open_sl2 Tryd.underlying22 (by kernel_rfl) (by decide) h hsm el_obj
  rw [bytesO] at hw
  exact ⟨A, n, c, l, rfl, ⟨hsl, fun o ho => ⟨(hok o ho).1, (hok o ho).2.1⟩⟩, by omega, fun o ho => (hok o ho).2.2⟩
theorem open_cls {fuel : Nat} {cs : List Value} {y : DataW H × List MemPlace} (h : DataW.trod enc Tryd.prog W 0 (fun _ => true) true fuel 30 cs = some y) (hsm : SmallD Tryd.prog 30 y.1) :
    ∃ A n c l, cs = [.slice A n c] ∧ Sl W W.heap.size 4 Cl.cells A n l ∧ n ≤ 4398046510976 ∧ ∀ o ∈ l, (Lit.int .i64 o.id).wf = true := by
  obtain ⟨A, n, c, l, rfl, hnc, hc, hw, hnul, hsl, hok⟩ := open_sl2 Tryd.underlying30 (by kernel_rfl) (by decide) h hsm el_cl
  rw [bytesC] at hw
  exact ⟨A, n, c, l, rfl, hsl, by omega, hok⟩
theorem open_heap {fuel : Nat} {cs : List Value} {y : DataW H × List MemPlace} (hl : cs.length = 1) (h : DataW.trod enc Tryd.prog W 0 (fun _ => true) true fuel 24 cs = some y) (hsm : SmallD Tryd.prog 24 y.1) :
    ∃ A n c l, cs = [.slice A n c] ∧ Hp W W.heap.size A n l ∧ n ≤ 4398046510976 := by
  have hf := trod_fields2 Tryd.underlying24 (by kernel_rfl) hl h hsm
  obtain ⟨v0, y0, n0, h0, t0, hs0⟩ := hf 0 _ rfl
  obtain ⟨A, n, c, l, e, hok, hn, _⟩ := open_objs t0 hs0
  simp at e
  subst e
  refine ⟨A, n, c, l, ?_, hok, hn⟩
  match cs, hl, h0 with
  | [a], _, h0 => simp at h0; subst h0; rfl
theorem one_of_okWide {P : Program} {r : Reach} {base : Nat} {u : TypeId} {v : Value} (h : Cell.okWide P W r base u v) : v.oneCell' = true := by
  unfold Cell.okWide Cell.ok at h
  cases v <;> first | rfl | (exfalso; split at h <;> first | exact h | (rename_i e; cases e) | (split at h <;> first | exact h | (rename_i e; cases e)))
set_option maxRecDepth 100000 in
theorem open_task {cs : List Value} {y : DataW H × List MemPlace} {fuel : Nat} (hl : cs.length = 48) (hone : cs.all (·.oneCell') = true) (h : DataW.trod enc Tryd.prog W 0 (fun _ => true) true fuel 34 cs = some y) (hsm : SmallD Tryd.prog 34 y.1) :
    ∃ (t : Ta) (gl rs ws : List Cl) (ds : List Dl) (ns : List Ob) (al : List Ac), cs = t.cells ∧ (Sl W W.heap.size 4 Cl.cells t.gs.A t.gs.n gl ∧ t.gs.n ≤ 4398046510976) ∧ (Sl W W.heap.size 4 Cl.cells t.rd.A t.rd.n rs ∧ t.rd.n ≤ 4398046510976) ∧ (Sl W W.heap.size 5 Dl.cells t.dl.A t.dl.n ds ∧ t.dl.n ≤ 4398046510976)
      ∧ (Sl W W.heap.size 4 Cl.cells t.wt.A t.wt.n ws ∧ t.wt.n ≤ 4398046510976) ∧ (Hp W W.heap.size t.nw.A t.nw.n ns ∧ t.nw.n ≤ 4398046510976) ∧ (Sl W W.heap.size 3 Ac.cells t.ac.A t.ac.n al ∧ t.ac.n ≤ 5864062014634) ∧ (∀ x ∈ ns, (Lit.int .i64 x.id).wf = true) ∧ ∀ x ∈ ws, (Lit.int .i64 x.id).wf = true := by
  obtain ⟨v4, y4, n4, h4, t4, s4⟩ := trod_cell Tryd.underlying34 h hsm 4 _ rfl (by kernel_rfl) (by rw [hl]; decide)
  obtain ⟨v5, y5, n5, h5, t5, s5⟩ := trod_cell Tryd.underlying34 h hsm 5 _ rfl (by kernel_rfl) (by rw [hl]; decide)
  obtain ⟨v6, y6, n6, h6, t6, s6⟩ := trod_cell Tryd.underlying34 h hsm 6 _ rfl (by kernel_rfl) (by rw [hl]; decide)
  obtain ⟨v7, y7, n7, h7, t7, s7⟩ := trod_cell Tryd.underlying34 h hsm 7 _ rfl (by kernel_rfl) (by rw [hl]; decide)
  obtain ⟨v8, y8, n8, h8, t8, s8⟩ := trod_cell Tryd.underlying34 h hsm 8 _ rfl (by kernel_rfl) (by rw [hl]; decide)
  obtain ⟨v9, y9, n9, h9, t9, s9⟩ := trod_cell Tryd.underlying34 h hsm 9 _ rfl (by kernel_rfl) (by rw [hl]; decide)
  obtain ⟨v10, y10, n10, h10, t10, -⟩ := trod_cell Tryd.underlying34 h hsm 10 _ rfl (by kernel_rfl) (by rw [hl]; decide)
  obtain ⟨A4, m4, c4, gl, e4, g1, g2, _⟩ := open_cls t4 s4
  obtain ⟨A5, m5, c5, rs, e5, r1, r2, _⟩ := open_cls t5 s5
  obtain ⟨A6, m6, c6, ws, e6, w1, w2, w3⟩ := open_cls t6 s6
  obtain ⟨A7, m7, c7, ns, e7, o1, o2, o3⟩ := open_objs t7 s7
  obtain ⟨A8, m8, c8, ds, e8, hnc8, hc8, hw8, _, d1, _⟩ := open_sl2 Tryd.underlying31 (by kernel_rfl) (by decide) t8 s8 el_dl
  obtain ⟨A9, m9, c9, al, e9, hnc9, hc9, hw9, _, a1, _⟩ := open_sl2 Tryd.underlying32 (by kernel_rfl) (by decide) t9 s9 el_ac
  obtain ⟨z, e10, _⟩ := DataW.trod_int Tryd.underlying3 t10
  rw [bytesD] at hw8
  rw [bytesA] at hw9
  simp at e4 e5 e6 e7 e8 e9 e10
  subst e4 e5 e6 e7 e8 e9 e10
  exact ⟨⟨z, ⟨A4, m4, c4⟩, ⟨A5, m5, c5⟩, ⟨A6, m6, c6⟩, ⟨A7, m7, c7⟩, ⟨A8, m8, c8⟩, ⟨A9, m9, c9⟩, cs, hl, hone, h4, h5, h6, h7, h8, h9, h10⟩, gl, rs, ws, ds, ns, al, rfl, ⟨g1, g2⟩, ⟨r1, r2⟩, ⟨d1, by show m8 ≤ _; omega⟩, ⟨w1, w2⟩, ⟨o1, o2⟩, ⟨a1, by show m9 ≤ _; omega⟩, o3, w3⟩
end
end Go.Proofs.YtfhpniafkkgibaaDoor
