/- What keeping and losing many shares does to each worker: the plain law. -/
import Derived.Test.YtignbncphdemlaaK
namespace Go.Proofs.Ytignbncphdemlaa
open Go.RowKit

/-- The steps of worker i in some shares. -/
def cnt : List Shr → Nat → Int
  | [], _ => 0
  | x :: s, i => (if x.worker = (i : Int) then x.steps else 0) + cnt s i
/-- Shares of n workers. -/
def Fine (n : Nat) (s : List Shr) : Prop := ∀ (i : Nat) (x : Shr), s[i]? = some x → 0 ≤ x.worker ∧ x.worker < n ∧ 0 ≤ x.steps
theorem Fine.tail {n : Nat} {x : Shr} {s : List Shr} (h : Fine n (x :: s)) : Fine n s := fun i y hy => h (i + 1) y (by simpa using hy)
theorem Fine.nil {n : Nat} : Fine n [] := fun i x h => by simp at h
theorem cnt_nonneg {n : Nat} : ∀ {s : List Shr}, Fine n s → ∀ i, 0 ≤ cnt s i
  | [], _, _ => by simp [cnt]
  | x :: s, h, i => by
    have := cnt_nonneg h.tail i
    have := h 0 x rfl
    simp only [cnt]
    split <;> omega
theorem cnt_append : ∀ (s t : List Shr) (i : Nat), cnt (s ++ t) i = cnt s i + cnt t i
  | [], t, i => by simp [cnt]
  | x :: s, t, i => by have := cnt_append s t i; simp only [List.cons_append, cnt, this]; omega
theorem mv_zero {f : Nat} (hf : f < 7) (a : Acc) : mv1 f 0 a = a := by
  funext j
  simp only [mv1, put]
  by_cases h1 : j = f
  · subst h1; simp
  · by_cases h2 : j = 7
    · subst h2; simp [h1]
    · simp [h1, h2]
theorem mv_add {f : Nat} (hf : f < 7) (k j : Int) (a : Acc) : mv1 f k (mv1 f j a) = mv1 f (j + k) a := by
  funext i
  have h7 : f ≠ 7 := by omega
  by_cases h1 : i = f
  · subst h1; simp [mv1, put]; omega
  · by_cases h2 : i = 7
    · subst h2; simp [mv1, put, h1, Ne.symm h7]; omega
    · simp [mv1, put, h1, h2]
theorem mv_swap {f g : Nat} (hf : f < 7) (hg : g < 7) (hfg : f ≠ g) (k j : Int) (a : Acc) : mv1 f k (mv1 g j a) = mv1 g j (mv1 f k a) := by
  funext i
  have h7 : f ≠ 7 := by omega
  have g7 : g ≠ 7 := by omega
  by_cases h1 : i = f
  · subst h1; simp [mv1, put, hfg, h7]
  · by_cases h2 : i = g
    · subst h2; simp [mv1, put, h1, g7]
    · by_cases h3 : i = 7
      · subst h3; simp [mv1, put, h1, h2, Ne.symm h7, Ne.symm g7]; omega
      · simp [mv1, put, h1, h2, h3]
/-- All shares moved, worker by worker. -/
def mvAll (f : Nat) (s : List Shr) (l : List Acc) : List Acc := l.mapIdx (fun i a => mv1 f (cnt s i) a)
theorem mvAll_len (f : Nat) (s : List Shr) (l : List Acc) : (mvAll f s l).length = l.length := List.length_mapIdx ..
theorem mvAll_get (f : Nat) (s : List Shr) (l : List Acc) (i : Nat) : (mvAll f s l)[i]? = (l[i]?).map (mv1 f (cnt s i)) := by rw [mvAll, List.getElem?_mapIdx]
theorem moveL_all {f : Nat} (hf : f < 7) : ∀ {s : List Shr} {l : List Acc}, Fine l.length s → (∀ (i : Nat) (a : Acc), l[i]? = some a → cnt s i ≤ a 7) → moveL f l s = some (mvAll f s l)
  | [], l, _, _ => by
    rw [moveL]
    congr 1
    apply List.ext_getElem?
    intro i
    rw [mvAll_get]
    cases l[i]? with
    | none => rfl
    | some a => simp [cnt, mv_zero hf]
  | x :: s, l, hfn, hle => by
    obtain ⟨h0, h1, h2⟩ := hfn 0 x rfl
    obtain ⟨p, hp⟩ := Int.eq_ofNat_of_zero_le h0
    obtain ⟨a, ha⟩ : ∃ a, l[p]? = some a := ⟨_, List.getElem?_eq_getElem (by omega)⟩
    have hpt : x.worker.toNat = p := by omega
    have hla := hle p a ha
    have hc0 := cnt_nonneg hfn.tail p
    simp only [cnt, hp, if_true] at hla
    rw [moveL_step (by rw [hpt]; exact ha) h2 (by omega), hpt, moveL_all hf (by rw [List.length_modify]; exact hfn.tail) (fun i b hb => ?_)]
    · congr 1
      apply List.ext_getElem?
      intro i
      rw [mvAll_get, mvAll_get, List.getElem?_modify]
      cases hl : l[i]? with
      | none => simp
      | some b =>
        by_cases hpi : p = i
        · subst hpi
          simp [cnt, hp, mv_add hf]
        · have : ¬ x.worker = (i : Int) := by omega
          simp [hpi, cnt, this]
    · rw [List.getElem?_modify] at hb
      by_cases hpi : p = i
      · subst hpi
        rw [ha] at hb
        simp at hb
        subst hb
        simp only [mv1]
        rw [put_other _ _ _ _ (by omega), put_same]
        omega
      · simp [hpi] at hb
        have := hle i b hb
        have hx : ¬ x.worker = (i : Int) := by omega
        simp only [cnt, hx, if_false] at this
        omega
theorem fine_strange {n : Nat} {s : List Shr} (h : Fine n s) : strange n s = false := strange_no (fun i x hx => ⟨(h i x hx).1, (h i x hx).2.1⟩)
theorem moveE_all {f : Nat} (hf : f < 7) {s : List Shr} {l : List Acc} (h : Fine l.length s) (hle : ∀ (i : Nat) (a : Acc), l[i]? = some a → cnt s i ≤ a 7) : moveE f l s = (mvAll f s l, 0) := by
  rw [moveE, fine_strange h, moveL_all hf h hle]
  rfl
theorem mvAll_swap {f g : Nat} (hf : f < 7) (hg : g < 7) (hfg : f ≠ g) (s t : List Shr) (l : List Acc) : mvAll f s (mvAll g t l) = mvAll g t (mvAll f s l) := by
  apply List.ext_getElem?
  intro i
  simp only [mvAll_get]
  cases l[i]? with
  | none => rfl
  | some a => simp [mv_swap hf hg hfg]
theorem mvAll_append {f : Nat} (hf : f < 7) (s t : List Shr) (l : List Acc) : mvAll f (s ++ t) l = mvAll f s (mvAll f t l) := by
  apply List.ext_getElem?
  intro i
  simp only [mvAll_get]
  cases l[i]? with
  | none => rfl
  | some a => simp [mv_add hf, cnt_append, Int.add_comm]
/- Adding a step to shares. -/
theorem cnt_modify {s : List Shr} {p i : Nat} {x : Shr} (h : s[p]? = some x) : cnt (s.modify p (fun x => ⟨x.worker, x.steps + 1⟩)) i = cnt s i + (if x.worker = (i : Int) then 1 else 0) := by
  induction s generalizing p with
  | nil => simp at h
  | cons y s ih =>
    cases p with
    | zero =>
      simp at h; subst h
      simp only [List.modify_zero_cons, cnt]
      split <;> omega
    | succ p =>
      have := ih (p := p) (by simpa using h)
      simp only [List.modify_succ_cons, cnt, this]
      omega
theorem addS_cases (s : List Shr) (k : Int) : (∃ (p : Nat) (x : Shr), s[p]? = some x ∧ x.worker = k ∧ addS s k = s.modify p (fun x => ⟨x.worker, x.steps + 1⟩)) ∨ ∃ p, p ≤ s.length ∧ addS s k = s.take p ++ ([⟨k, 1⟩] ++ s.drop p) := by
  rcases IdxEq.idx_cases (fun x => x.worker == k) s with ⟨h, _⟩ | ⟨p, x, h, hp, hx, hq, _⟩
  · rcases IdxGt.idx_cases (fun x => decide (k < x.worker)) s with ⟨h2, _⟩ | ⟨p, x, h2, hp, hx, hq, _⟩
    · refine .inr ⟨s.length, Nat.le_refl _, ?_⟩
      rw [addS, h, h2, if_neg (by decide), if_pos (by decide)]
      simp
    · refine .inr ⟨p, by omega, ?_⟩
      rw [addS, h, h2, if_neg (by decide), if_neg (by omega)]
      simp
  · refine .inl ⟨p, x, hx, by simpa using hq, ?_⟩
    rw [addS, h, if_pos (by omega)]
    simp
theorem addS_cnt (s : List Shr) (k : Nat) (i : Nat) : cnt (addS s k) i = cnt s i + (if k = i then 1 else 0) := by
  rcases addS_cases s k with ⟨p, x, hx, hw, he⟩ | ⟨p, hp, he⟩
  · rw [he, cnt_modify hx, hw]
    by_cases h : k = i
    · subst h; simp
    · have : ¬ (k : Int) = i := by omega
      simp [h, this]
  · rw [he, cnt_append, cnt_append]
    have h1 : cnt s i = cnt (s.take p) i + cnt (s.drop p) i := by rw [← cnt_append, List.take_append_drop]
    have h2 : cnt [⟨(k : Int), 1⟩] i = if k = i then 1 else 0 := by
      simp only [cnt]
      by_cases h : k = i
      · subst h; simp
      · have : ¬ (k : Int) = i := by omega
        simp [h, this]
    omega
theorem addS_fine {n : Nat} {s : List Shr} {k : Nat} (h : Fine n s) (hk : k < n) : Fine n (addS s k) := by
  rcases addS_cases s k with ⟨p, x, hx, hw, he⟩ | ⟨p, hp, he⟩
  · rw [he]
    intro i y hy
    rw [List.getElem?_modify] at hy
    cases hs : s[i]? with
    | none => simp [hs] at hy
    | some z =>
      have := h i z hs
      by_cases hpi : p = i
      · simp [hpi, hs] at hy; subst hy; exact ⟨this.1, this.2.1, by simp; omega⟩
      · simp [hpi, hs] at hy; subst hy; exact this
  · rw [he]
    intro i y hy
    have hm : y ∈ s.take p ++ ([⟨(k : Int), 1⟩] ++ s.drop p) := List.mem_of_getElem? hy
    have hcase : y ∈ s ∨ y = ⟨(k : Int), 1⟩ := by
      rcases List.mem_append.1 hm with h1 | h1
      · exact .inl (List.mem_of_mem_take h1)
      · rcases List.mem_append.1 h1 with h2 | h2
        · exact .inr (by simpa using h2)
        · exact .inl (List.mem_of_mem_drop h2)
    rcases hcase with h1 | rfl
    · obtain ⟨j, hj⟩ := List.getElem?_of_mem h1
      exact h j y hj
    · refine ⟨?_, ?_, ?_⟩ <;> simp <;> omega
theorem addS_len (s : List Shr) (k : Int) : (addS s k).length ≤ s.length + 1 := by
  rcases addS_cases s k with ⟨p, x, hx, hw, he⟩ | ⟨p, hp, he⟩
  · rw [he, List.length_modify]; omega
  · rw [he]; simp; omega
theorem sumS_cons (x : Shr) (s : List Shr) : sumS (x :: s) = x.steps + sumS s := by
  have : ∀ (l : List Int) (a : Int), l.foldl (· + ·) a = a + l.foldl (· + ·) 0 := by
    intro l
    induction l with
    | nil => intro a; simp
    | cons y l ih => intro a; rw [List.foldl_cons, List.foldl_cons, ih, ih (0 + y)]; omega
  simp only [sumS, List.map_cons, List.foldl_cons]
  rw [this]
  omega
/-- A sum over the first n. -/
def sumTo (g : Nat → Int) : Nat → Int
  | 0 => 0
  | n + 1 => sumTo g n + g n
theorem sumTo_add (g h : Nat → Int) : ∀ n, sumTo (fun i => g i + h i) n = sumTo g n + sumTo h n
  | 0 => rfl
  | n + 1 => by simp only [sumTo, sumTo_add g h n]; omega
theorem sumTo_one (w : Int) (v : Int) : ∀ n : Nat, sumTo (fun i => if w = (i : Int) then v else 0) n = if 0 ≤ w ∧ w < n then v else 0
  | 0 => by rw [if_neg (by omega)]; rfl
  | n + 1 => by
    simp only [sumTo, sumTo_one w v n]
    by_cases h : w = (n : Int)
    · rw [if_neg (by omega), if_pos h, if_pos (by omega)]; omega
    · rw [if_neg h]
      by_cases h2 : 0 ≤ w ∧ w < n
      · rw [if_pos h2, if_pos (by omega)]; omega
      · rw [if_neg h2, if_neg (by omega)]; rfl
theorem sumTo_congr {g h : Nat → Int} : ∀ n, (∀ i, i < n → g i = h i) → sumTo g n = sumTo h n
  | 0, _ => rfl
  | n + 1, hh => by simp only [sumTo]; rw [sumTo_congr n (fun i hi => hh i (by omega)), hh n (by omega)]
theorem sumTo_cnt {n : Nat} : ∀ {s : List Shr}, Fine n s → sumTo (cnt s) n = sumS s
  | [], _ => by
    have : sumTo (cnt []) n = sumTo (fun _ => 0) n := rfl
    rw [this]
    have h0 : ∀ n, sumTo (fun _ => 0) n = 0 := fun n => by induction n with
      | zero => rfl
      | succ n ih => simp [sumTo, ih]
    rw [h0]; rfl
  | x :: s, h => by
    have e : cnt (x :: s) = fun i : Nat => (if x.worker = (i : Int) then x.steps else 0) + cnt s i := rfl
    have hx := h 0 x rfl
    rw [e, sumTo_add, sumTo_cnt h.tail, sumTo_one, if_pos ⟨hx.1, hx.2.1⟩, sumS_cons]
theorem totF_sum (l : List Acc) (j : Nat) : ∀ n, n ≤ l.length → totF (l.take n) j = sumTo (fun i => match l[i]? with | some a => a j | none => 0) n
  | 0, _ => rfl
  | n + 1, h => by
    obtain ⟨a, ha⟩ : ∃ a, l[n]? = some a := ⟨_, List.getElem?_eq_getElem (by omega)⟩
    rw [totF_snoc ha, totF_sum l j n (by omega)]
    simp only [sumTo, ha]
end Go.Proofs.Ytignbncphdemlaa
