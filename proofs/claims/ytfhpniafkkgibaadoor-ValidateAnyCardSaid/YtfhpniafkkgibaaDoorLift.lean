/- From a walked law to the given statement: what is alike for every law. -/
import Derived.Test.YtfhpniafkkgibaaDoorKit
import Derived.ProofKit
import Derived.Deep.Slices
import Derived.Deep.Fields
import Derived.ChangeSame
namespace Go.Proofs.YtfhpniafkkgibaaDoor
open Go.ChangeShapes Go.WideShapes Go.ChangeAt Go.RowKit Go.Deep

theorem Tryd.own : ownKnob Tryd.prog.godebug = none := by kernel_rfl
theorem Tryd.laidOut : laidOutB Tryd.prog = true := by kernel_rfl

section
variable {H : Type} {enc : TypeId × Value → H} {P : Program} {W W' : World}
theorem trodAll_below (hl : laidOutB P = true) (hb : Below W.heap.size W W') : ∀ (ts : List TypeId) (vs : List Value) (ds : List (DataW H)) (ps : List MemPlace),
    (∀ t ∈ ts, P.readableRec t = true ∧ t < P.types.size) → DataW.TrodAll enc P W 0 (fun _ => true) true ts vs ds ps → (∀ x ∈ ps, x.block < W.heap.size) →
    DataW.TrodAll enc P W' 0 (fun b => decide (b < W.heap.size)) true ts vs ds ps
  | [], [], [], _, _, h, _ => h
  | t :: ts, v :: vs, d :: ds, ps, hr, h, hlt => by
    obtain ⟨p, q, h1, h2, rfl⟩ := h
    have hrt := hr t (by simp)
    exact ⟨p, q, Below.trod hl hrt.1 hrt.2 h1 hb (fun x hx => hlt x (List.mem_append_left _ hx)),
      trodAll_below hl hb ts vs ds q (fun t ht => hr t (by simp [ht])) h2 (fun x hx => hlt x (List.mem_append_right _ hx)), rfl⟩
  | [], _ :: _, _, _, _, h, _ => h.elim
  | [], [], _ :: _, _, _, h, _ => h.elim
  | _ :: _, [], _, _, _, h, _ => h.elim
  | _ :: _, _ :: _, [], _, _, h, _ => h.elim

theorem law_post {fn : Func} {s : ChangeSpec} {args : Array Value} {ds : List (DataW H)} {before : List MemPlace} {tb : TypeId}
    (hl : laidOutB P = true) (hread : ∀ t ∈ fn.params.toList, P.readableRec t = true ∧ t < P.types.size)
    (hW : DataW.Whole enc P fn.params.toList s.vars false W args.toList ds [] before) (hvars : s.vars = [])
    (hres : fn.resultTypes = #[tb]) (hub : P.underlying tb = some .bool)
    (hfn : s.fn H (ds ++ []) = { results := [.lit (.bool true)], args := ds }) (hb : Below W.heap.size W W') :
    s.post enc P fn false true false false W args (.bool true) W' := by
  have hW' := hW
  obtain ⟨p, q, hA, hV, rfl, _, _⟩ := hW
  have hlt := hW'.lt
  rw [hvars] at hV
  obtain ⟨_, rfl⟩ := trodVars_none hV
  refine ⟨ds, [], _, [], p, [], hW', ?_, ?_, ?_, hb.frame _, fun h => by cases h⟩
  · rw [hfn, hres]
    exact trodAll_mk1 (shut_bool hub true)
  · rw [hfn]
    exact trodAll_below hl hb _ _ _ _ hread hA (fun x hx => hlt x (List.mem_append_left _ hx))
  · rw [hfn, hvars]
    rfl

/-- A slice that came in reads as records. -/
theorem open_nul {t e : TypeId} {A : Option Addr} {n c : Nat} {d : DataW H} {p : List MemPlace} (ht : P.underlying t = some (.slice e)) (h : DataW.Trod enc P W 0 (fun _ => true) true t (.slice A n c) d p) : A = none → c = 0 := by
  intro hA
  subst hA
  obtain ⟨fuel, hf⟩ := h
  rcases open_slice ht hf with ⟨hcs, _⟩ | ⟨a, len, cap, m, k, D, Pl, hcs, _⟩
  · simp [Value.cells] at hcs
    exact hcs.2
  · simp [Value.cells] at hcs
theorem open_sl {α : Type} {cells : α → List Value} {sz : Nat} {Ok : α → Prop} {t e : TypeId} {v : Value} {d : DataW H} {p : List MemPlace} {b0 : Nat} (ht : P.underlying t = some (.slice e)) (hC : P.cellsOf e = sz) (hs : 0 < sz)
    (hval : Value.okWide P W .any b0 t v) (h : DataW.Trod enc P W 0 (fun _ => true) true t v d p)
    (hel : ∀ n cs y, cs.length = sz → DataW.trod enc P W 0 (fun _ => true) true n e cs = some y → ∃ x : α, cs = cells x ∧ Ok x) :
    ∃ A n c l, v = .slice A n c ∧ n ≤ c ∧ c ≤ 9223372036854775807 ∧ Sl W W.heap.size sz cells A n l ∧ ∀ x ∈ l, Ok x := by
  obtain ⟨A, n, c, rfl⟩ := okWide_slice ht hval
  obtain ⟨fuel, hf⟩ := h
  rcases open_slice ht hf with ⟨hcs, _⟩ | ⟨a, len, cap, m, k, D, Pl, hcs, _, hlc, hcm, hmm, _, hi⟩
  · simp [Value.cells] at hcs
    obtain ⟨rfl, rfl, rfl⟩ := hcs
    exact ⟨none, 0, 0, [], rfl, Nat.le_refl _, by omega, Sl.nil, by simp⟩
  · simp [Value.cells] at hcs
    obtain ⟨rfl, rfl, rfl⟩ := hcs
    simp only [if_true] at hmm
    subst hmm
    have hex : ∀ k', k' ≤ n → ∃ l : List α, l.length = k' ∧ ∀ (i : Nat) (x : α), l[i]? = some x → Ok x ∧ W.cells? 0 (a.add (i * sz)) sz = some (cells x) := by
      intro k'
      induction k' with
      | zero => intro _; exact ⟨[], rfl, by simp⟩
      | succ k' ih =>
        intro hk'
        obtain ⟨l, hl, hll⟩ := ih (by omega)
        obtain ⟨cs', h1, h2⟩ := hi k' (by omega)
        rw [hC] at h1
        obtain ⟨_, hcl, _⟩ := World.cells?_some h1
        obtain ⟨x, rfl, hok⟩ := hel k cs' _ hcl h2
        refine ⟨l ++ [x], by simp [hl], fun i y hy => ?_⟩
        by_cases hik : i < k'
        · rw [List.getElem?_append_left (by omega)] at hy
          exact hll i y hy
        · have hlt := (List.getElem?_eq_some_iff.1 hy).1
          simp [hl] at hlt
          obtain rfl : i = k' := by omega
          rw [List.getElem?_append_right (by omega), hl] at hy
          simp at hy
          subst hy
          exact ⟨hok, h1⟩
    obtain ⟨l, hl, hll⟩ := hex n (Nat.le_refl _)
    refine ⟨some a, _, _, l, rfl, hlc, by unfold maxLen at hcm; omega, ⟨hl, fun hn => ?_⟩, fun x hx => ?_⟩
    · have hget : ∀ (i : Nat) (x : α), l[i]? = some x → ∀ (j : Nat) (u : Value), (cells x)[j]? = some u → W.cell? ((a.add (i * sz)).add j) = some u := fun i x hx j u hu => by
        obtain ⟨_, h1⟩ := hll i x hx
        obtain ⟨_, hcl, hat⟩ := World.cells?_some h1
        have hj := (List.getElem?_eq_some_iff.1 hu).1
        rw [hat j (by omega)]; exact hu
      have h0 : 0 < l.length := by omega
      obtain ⟨hok0, hc0⟩ := hll 0 _ (List.getElem?_eq_getElem h0)
      obtain ⟨_, hcl0, _⟩ := World.cells?_some hc0
      have hz := hget 0 _ (List.getElem?_eq_getElem h0) 0 _ (List.getElem?_eq_getElem (by omega))
      have hae : (a.add (0 * sz)).add 0 = a := by simp [Addr.add]
      rw [hae] at hz
      obtain ⟨ab, ao, asp⟩ := a
      have hsp : asp = none := by
        cases asp with
        | none => rfl
        | some _ => unfold World.cell? at hz; simp at hz; split at hz <;> simp at hz
      subst hsp
      refine ⟨ab, ao, rfl, World.block_lt_of_cell? W _ hz, fun i x hx j u hu => ?_⟩
      have h := hget i x hx j u hu
      rw [Addr.add_lit, Addr.add_lit] at h
      rwa [Nat.add_assoc] at h
    · obtain ⟨i, hi'⟩ := List.getElem?_of_mem hx
      exact (hll i x hi').1
/-- A struct of fields of one cell each: every field by itself. -/
theorem trod_fields {e : TypeId} {fs : Array Field} {fuel : Nat} {cs : List Value} {x : DataW H × List MemPlace} {sp : Nat → Bool} {held : Bool} (he : P.underlying e = some (.struct fs)) (hone : oneCellFields P fs = true) (hcs : cs.length = fs.size)
    (h : DataW.trod enc P W 0 sp held fuel e cs = some x) : ∀ (j : Nat) (f : Field), fs[j]? = some f → ∃ (v : Value) (y : DataW H × List MemPlace) (n : Nat), cs[j]? = some v ∧ DataW.trod enc P W 0 sp held n f.type [v] = some y := by
  intro j f hj
  obtain ⟨ys, n', hn', hy, hlen, hyl, hf⟩ := DataW.trod_struct he h
  obtain ⟨ho, hk⟩ := hone_of hone j f hj
  have hjl : j < fs.size := (Array.getElem?_eq_some_iff.1 hj).1
  have h1 := hf j f hj
  rw [ho, hk] at h1
  have hone' : (cs.drop j).take 1 = [cs[j]'(by omega)] := by
    rw [List.drop_eq_getElem_cons (by omega)]
    rfl
  rw [hone'] at h1
  have hys : ys[j]? = some (ys[j]'(by omega)) := List.getElem?_eq_getElem (by omega)
  exact ⟨_, _, _, List.getElem?_eq_getElem (by omega), h1.trans hys⟩
theorem args_of {args : Array Value} {l : List Value} (h : args.toList = l) : args = l.toArray := by rw [← h]
theorem wf_i64 {n : Int} (h : (Lit.int .i64 n).wf = true) : -9223372036854775808 ≤ n ∧ n ≤ 9223372036854775807 := by
  have h1 : IntKind.i64.min = -9223372036854775808 := rfl
  have h2 : IntKind.i64.max = 9223372036854775807 := rfl
  simp only [Lit.wf, Bool.and_eq_true, decide_eq_true_eq] at h
  omega
theorem wf_u32 {n : Int} (h : (Lit.int .u32 n).wf = true) : 0 ≤ n ∧ n ≤ 4294967295 := by
  have h1 : IntKind.u32.min = 0 := rfl
  have h2 : IntKind.u32.max = 4294967295 := rfl
  simp only [Lit.wf, Bool.and_eq_true, decide_eq_true_eq] at h
  omega
theorem wf_u8 {n : Int} (h : (Lit.int .u8 n).wf = true) : 0 ≤ n ∧ n ≤ 255 := by
  have h1 : IntKind.u8.min = 0 := rfl
  have h2 : IntKind.u8.max = 255 := rfl
  simp only [Lit.wf, Bool.and_eq_true, decide_eq_true_eq] at h
  omega
end
end Go.Proofs.YtfhpniafkkgibaaDoor
