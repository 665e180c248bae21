/- Opening what came in, with the form's own reach: slices of records, also nested, and structs. -/
import Derived.Test.YtfhpniafkkgibaaDoorLift
import Derived.SizedLaws
namespace Go.Proofs.YtfhpniafkkgibaaDoor
open Go.ChangeShapes Go.WideShapes Go.ChangeAt Go.RowKit Go.Deep

section
variable {H : Type} {enc : TypeId × Value → H} {P : Program} {W W' : World}
/-- What a datum weighs lies within the form's reach. -/
def SmallD (P : Program) (t : TypeId) (d : DataW H) : Prop := ∀ k ∈ d.weights P t, k ≤ 140737488351232
theorem small_args {ts : List TypeId} {ds : List (DataW H)} (h : (DataW.weightsEach P ts ds).all (· ≤ reachBytes) = true) {j : Nat} {t : TypeId} {d : DataW H} (ht : ts[j]? = some t) (hd : ds[j]? = some d) : SmallD P t d := fun k hk => by
  have := List.all_eq_true.1 h k (DataW.weights_mem_each ht hd k hk)
  exact of_decide_eq_true this
theorem weights_all_mem {e : TypeId} : ∀ {l : List (DataW H)} {d : DataW H}, d ∈ l → ∀ k ∈ d.weights P e, k ∈ DataW.weightsAll P e l
  | x :: l, d, hd, k, hk => by
    simp only [DataW.weightsAll, List.mem_append]
    rcases List.mem_cons.1 hd with rfl | hd
    · exact .inl hk
    · exact .inr (weights_all_mem hd k hk)
/-- A struct of fields of one cell each: every field by itself, and each within reach. -/
theorem trod_fields2 {e : TypeId} {fs : Array Field} {fuel : Nat} {cs : List Value} {x : DataW H × List MemPlace} {sp : Nat → Bool} {held : Bool} (he : P.underlying e = some (.struct fs)) (hone : oneCellFields P fs = true) (hcs : cs.length = fs.size)
    (h : DataW.trod enc P W 0 sp held fuel e cs = some x) (hsm : SmallD P e x.1) : ∀ (j : Nat) (f : Field), fs[j]? = some f → ∃ (v : Value) (y : DataW H × List MemPlace) (n : Nat), cs[j]? = some v ∧ DataW.trod enc P W 0 sp held n f.type [v] = some y ∧ SmallD P f.type y.1 := by
  intro j f hj
  obtain ⟨ys, n', hn', hy, hlen, hyl, hf⟩ := DataW.trod_struct he h
  obtain ⟨ho, hk⟩ := hone_of hone j f hj
  have hjl : j < fs.size := (Array.getElem?_eq_some_iff.1 hj).1
  have h1 := hf j f hj
  rw [ho, hk] at h1
  have hone' : (cs.drop j).take 1 = [cs[j]'(by omega)] := by
    rw [List.drop_eq_getElem_cons (by omega)]
    rfl
  rw [hone'] at h1
  have hys : ys[j]? = some (ys[j]'(by omega)) := List.getElem?_eq_getElem (by omega)
  refine ⟨_, _, _, List.getElem?_eq_getElem (by omega), h1.trans hys, fun k hk => ?_⟩
  refine hsm k ?_
  rw [hy]
  simp only [DataW.weights, he]
  exact DataW.weights_mem_each (j := j) (by rw [List.getElem?_map, Array.getElem?_toList, hj]; rfl) (by rw [List.getElem?_map, hys]; rfl) k hk
theorem open_sl2 {α : Type} {cells : α → List Value} {sz : Nat} {Ok : α → Prop} {t e : TypeId} {cs : List Value} {y : DataW H × List MemPlace} {fuel : Nat} (ht : P.underlying t = some (.slice e)) (hC : P.cellsOf e = sz) (hs : 0 < sz)
    (hf : DataW.trod enc P W 0 (fun _ => true) true fuel t cs = some y) (hsm : SmallD P t y.1)
    (hel : ∀ n cs y, cs.length = sz → DataW.trod enc P W 0 (fun _ => true) true n e cs = some y → SmallD P e y.1 → ∃ x : α, cs = cells x ∧ Ok x) :
    ∃ A n c l, cs = [.slice A n c] ∧ n ≤ c ∧ c ≤ 9223372036854775807 ∧ c * P.bytesOf e ≤ 140737488351232 ∧ (A = none → c = 0) ∧ Sl W W.heap.size sz cells A n l ∧ ∀ x ∈ l, Ok x := by
  rcases open_slice ht hf with ⟨rfl, _⟩ | ⟨a, n, c, m, k, D, Pl, rfl, _, hlc, hcm, hmm, rfl, hi⟩
  · exact ⟨none, 0, 0, [], rfl, Nat.le_refl _, by omega, by omega, fun _ => rfl, Sl.nil, by simp⟩
  · simp only [if_true] at hmm
    subst hmm
    have hw : m * P.bytesOf e ≤ 140737488351232 := by
      have h1 := hsm ((n + (m - n)) * P.bytesOf e) (by simp [DataW.weights, ht])
      rwa [show n + (m - n) = m from by omega] at h1
    have hD : ∀ i, i < n → SmallD P e (D i) := fun i hi k hk => hsm k (by
      simp only [DataW.weights, ht, List.mem_cons, List.mem_append]
      exact .inr (.inl (weights_all_mem (List.mem_map.2 ⟨i, List.mem_range.2 hi, rfl⟩) k hk)))
    have hex : ∀ k', k' ≤ n → ∃ l : List α, l.length = k' ∧ ∀ (i : Nat) (x : α), l[i]? = some x → Ok x ∧ W.cells? 0 (a.add (i * sz)) sz = some (cells x) := by
      intro k'
      induction k' with
      | zero => intro _; exact ⟨[], rfl, by simp⟩
      | succ k' ih =>
        intro hk'
        obtain ⟨l, hl, hll⟩ := ih (by omega)
        obtain ⟨cs', h1, h2⟩ := hi k' (by omega)
        rw [hC] at h1
        obtain ⟨_, hcl, _⟩ := World.cells?_some h1
        obtain ⟨x, rfl, hok⟩ := hel k cs' _ hcl h2 (hD k' (by omega))
        refine ⟨l ++ [x], by simp [hl], fun i y hy => ?_⟩
        by_cases hik : i < k'
        · rw [List.getElem?_append_left (by omega)] at hy
          exact hll i y hy
        · have hlt := (List.getElem?_eq_some_iff.1 hy).1
          simp [hl] at hlt
          obtain rfl : i = k' := by omega
          rw [List.getElem?_append_right (by omega), hl] at hy
          simp at hy
          subst hy
          exact ⟨hok, h1⟩
    obtain ⟨l, hl, hll⟩ := hex n (Nat.le_refl _)
    refine ⟨some a, n, m, l, rfl, hlc, by unfold maxLen at hcm; omega, hw, (fun h => by cases h), ⟨hl, fun hn => ?_⟩, fun x hx => ?_⟩
    · have hget : ∀ (i : Nat) (x : α), l[i]? = some x → ∀ (j : Nat) (u : Value), (cells x)[j]? = some u → W.cell? ((a.add (i * sz)).add j) = some u := fun i x hx j u hu => by
        obtain ⟨_, h1⟩ := hll i x hx
        obtain ⟨_, hcl, hat⟩ := World.cells?_some h1
        have hj := (List.getElem?_eq_some_iff.1 hu).1
        rw [hat j (by omega)]; exact hu
      have h0 : 0 < l.length := by omega
      obtain ⟨hok0, hc0⟩ := hll 0 _ (List.getElem?_eq_getElem h0)
      obtain ⟨_, hcl0, _⟩ := World.cells?_some hc0
      have hz := hget 0 _ (List.getElem?_eq_getElem h0) 0 _ (List.getElem?_eq_getElem (by omega))
      have hae : (a.add (0 * sz)).add 0 = a := by simp [Addr.add]
      rw [hae] at hz
      obtain ⟨ab, ao, asp⟩ := a
      have hsp : asp = none := by
        cases asp with
        | none => rfl
        | some _ => unfold World.cell? at hz; simp at hz; split at hz <;> simp at hz
      subst hsp
      refine ⟨ab, ao, rfl, World.block_lt_of_cell? W _ hz, fun i x hx j u hu => ?_⟩
      have h := hget i x hx j u hu
      rw [Addr.add_lit, Addr.add_lit] at h
      rwa [Nat.add_assoc] at h
    · obtain ⟨i, hi'⟩ := List.getElem?_of_mem hx
      exact (hll i x hi').1
end
end Go.Proofs.YtfhpniafkkgibaaDoor
