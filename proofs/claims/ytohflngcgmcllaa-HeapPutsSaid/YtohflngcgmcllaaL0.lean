/- Objects put in any order, in plain data. -/
import Derived.Test.YtohflngcgmcllaaK0
namespace Go.Proofs.Ytohflngcgmcllaa

/-- A number put into an ascending list, once. -/
def ins (k : Nat) : List Nat → List Nat
  | [] => [k]
  | x :: l => if k < x then k :: x :: l else if k = x then x :: l else x :: ins k l
def AscN (l : List Nat) : Prop := l.Pairwise fun a b => a < b
theorem ins_mem (k : Nat) : ∀ (l : List Nat) (y : Nat), y ∈ ins k l ↔ y = k ∨ y ∈ l
  | [], y => by simp [ins]
  | x :: l, y => by
    have ih := ins_mem k l y
    simp only [ins]
    split
    · simp
    · split
      · rename_i h; subst h; simp
      · simp [ih]; constructor
        · rintro (h | h | h) <;> simp [h]
        · rintro (h | h | h) <;> simp [h]
theorem ins_asc {k : Nat} : ∀ {l : List Nat}, AscN l → AscN (ins k l)
  | [], _ => List.pairwise_singleton _ _
  | x :: l, h => by
    obtain ⟨h1, h2⟩ := List.pairwise_cons.1 h
    simp only [ins]
    split
    · refine List.pairwise_cons.2 ⟨fun y hy => ?_, h⟩
      rcases List.mem_cons.1 hy with rfl | hy
      · assumption
      · have := h1 y hy; omega
    · split
      · exact h
      · refine List.pairwise_cons.2 ⟨fun y hy => ?_, ins_asc h2⟩
        rcases (ins_mem k l y).1 hy with rfl | hy
        · omega
        · exact h1 y hy
theorem asc_ext : ∀ {l r : List Nat}, AscN l → AscN r → (∀ y, y ∈ l ↔ y ∈ r) → l = r
  | [], [], _, _, _ => rfl
  | [], y :: r, _, _, h => by have := (h y).2 (by simp); simp at this
  | x :: l, [], _, _, h => by have := (h x).1 (by simp); simp at this
  | x :: l, y :: r, hl, hr, h => by
    obtain ⟨l1, l2⟩ := List.pairwise_cons.1 hl
    obtain ⟨r1, r2⟩ := List.pairwise_cons.1 hr
    have hxy : x = y := by
      rcases List.mem_cons.1 ((h x).1 (by simp)) with h1 | h1
      · exact h1
      · rcases List.mem_cons.1 ((h y).2 (by simp)) with h2 | h2
        · exact h2.symm
        · have := r1 x h1; have := l1 y h2; omega
    subst hxy
    congr 1
    refine asc_ext l2 r2 fun z => ⟨fun hz => ?_, fun hz => ?_⟩
    · rcases List.mem_cons.1 ((h z).1 (by simp [hz])) with h1 | h1
      · have := l1 z hz; omega
      · exact h1
    · rcases List.mem_cons.1 ((h z).2 (by simp [hz])) with h1 | h1
      · have := r1 z hz; omega
      · exact h1
/-- The object of number k. -/
def nth (F : Nat → List Val) (k : Nat) : PO := ⟨(k : Int) + 1, F k⟩
theorem put_ahead {o y : PO} {L : List PO} (h : o.id < y.id) (hL : ∀ z ∈ L, y.id < z.id) : putO o (y :: L) = o :: y :: L := by
  have hi : idx o.id (y :: L) = none := idx_none fun i z hz e => by
    have := List.mem_of_getElem? hz
    rcases List.mem_cons.1 this with rfl | h2
    · omega
    · have := hL z h2; omega
  simp [putO, hi, gt, h]
theorem put_same {o y : PO} {L : List PO} (h : y.id = o.id) : putO o (y :: L) = o :: L := by
  simp [putO, idx, h]
theorem put_behind {o y : PO} {L : List PO} (h : y.id < o.id) : putO o (y :: L) = y :: putO o L := by
  have h1 : ¬ y.id = o.id := by omega
  have h2 : ¬ o.id < y.id := by omega
  unfold putO
  simp only [idx, if_neg h1]
  cases hi : idx o.id L with
  | none => simp [gt, h2]
  | some i => simp
theorem put_ins (F : Nat → List Val) (k : Nat) : ∀ {ks : List Nat}, AscN ks → putO (nth F k) (ks.map (nth F)) = (ins k ks).map (nth F)
  | [], _ => rfl
  | x :: l, h => by
    obtain ⟨h1, h2⟩ := List.pairwise_cons.1 h
    simp only [List.map_cons, ins]
    split
    · rename_i hk
      rw [put_ahead (by show (k : Int) + 1 < x + 1; omega) (fun z hz => by obtain ⟨q, hq, rfl⟩ := List.mem_map.1 hz; have := h1 q hq; show (x : Int) + 1 < q + 1; omega)]
      rfl
    · split
      · rename_i hk; subst hk
        rw [put_same rfl]; rfl
      · rw [put_behind (by show (x : Int) + 1 < k + 1; omega), put_ins F k h2]
        rfl
theorem valid_nth (F : Nat → List Val) {ks : List Nat} (h : AscN ks) : ValidP (ks.map (nth F)) := by
  intro i x hx
  rw [List.getElem?_map] at hx
  cases hk : ks[i]? with
  | none => rw [hk] at hx; cases hx
  | some k =>
    rw [hk] at hx; injection hx with hx; subst hx
    refine ⟨by show (0 : Int) < k + 1; omega, fun h0 y hy => ?_⟩
    rw [List.getElem?_map] at hy
    cases hq : ks[i - 1]? with
    | none => rw [hq] at hy; cases hy
    | some q =>
      rw [hq] at hy; injection hy with hy; subst hy
      obtain ⟨hi, rfl⟩ := List.getElem?_eq_some_iff.1 hk
      obtain ⟨hj, rfl⟩ := List.getElem?_eq_some_iff.1 hq
      have := (List.pairwise_iff_getElem.1 h) (i - 1) i hj hi (by omega)
      show ((ks[i - 1] : Nat) : Int) + 1 < (ks[i] : Nat) + 1
      omega
theorem ins_last : ∀ (l : List Nat) (k : Nat), (∀ x ∈ l, x < k) → ins k l = l ++ [k]
  | [], k, _ => rfl
  | x :: l, k, h => by
    have h1 := h x (by simp)
    have ih := ins_last l k (fun y hy => h y (by simp [hy]))
    simp only [ins, if_neg (show ¬ k < x by omega), if_neg (show ¬ k = x by omega), ih, List.cons_append]
theorem ins_range (k : Nat) : ins k (List.range k) = List.range (k + 1) := by
  rw [ins_last _ _ (fun x hx => List.mem_range.1 hx), List.range_succ]
theorem ins_len (k : Nat) : ∀ l : List Nat, (ins k l).length ≤ l.length + 1
  | [] => by simp [ins]
  | x :: l => by
    have := ins_len k l
    simp only [ins]
    split
    · simp
    · split
      · simp
      · simp only [List.length_cons]; omega
/-- All numbers below n, ascending. -/
theorem asc_range (n : Nat) : AscN (List.range n) := by
  refine List.pairwise_iff_getElem.2 fun i j hi hj hij => ?_
  simp; exact hij
theorem turned_all {n t : Nat} (hn : 0 < n) {k : Nat} (hk : k < n) : ∃ i, i < n ∧ (i + t) % n = k := by
  refine ⟨(k + (n - t % n)) % n, Nat.mod_lt _ hn, ?_⟩
  have h1 := Nat.mod_lt t hn
  rw [Nat.mod_add_mod]
  have : k + (n - t % n) + t = k + n * (1 + t / n) := by
    have := Nat.mod_add_div t n
    rw [Nat.mul_add]; omega
  rw [this, Nat.add_mul_mod_self_left, Nat.mod_eq_of_lt hk]
theorem put_at {L : List PO} (h : ValidP L) {j : Nat} {x o : PO} (hx : L[j]? = some x) (he : o.id = x.id) : putO o L = L.set j o := by
  simp only [putO, he, idx_valid h hx]
theorem get_idx {L : List PO} (h : ValidP L) {j : Nat} {x o : PO} (hx : L[j]? = some x) (he : o.id = x.id) : idx o.id (L.set j o) = some j ∧ (L.set j o)[j]? = some o := by
  have hj := (List.getElem?_eq_some_iff.1 hx).1
  have hg : (L.set j o)[j]? = some o := (setl_get L hj).2 (.inl ⟨rfl, rfl⟩)
  exact ⟨idx_valid (valid_set h hx he) hg, hg⟩
end Go.Proofs.Ytohflngcgmcllaa
