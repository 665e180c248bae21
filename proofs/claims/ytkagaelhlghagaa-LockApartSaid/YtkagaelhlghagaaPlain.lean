/- Locks as plain data: who holds one, a list with one changed, and that lists stay in order. -/
import Derived.Test.YtkagaelhlghagaaRows
namespace Go.Proofs.Ytkagaelhlghagaa

structure Lk where
  number : Int
  holder : Int
def Lk.cells (x : Lk) : List Value := [.int .i64 x.number, .int .i64 x.holder]
theorem Lk.size (x : Lk) : x.cells.length = 2 := rfl
theorem lk_one (l : List Lk) : ∀ u ∈ l.flatMap Lk.cells, u.oneCell' = true := by
  intro u hu
  obtain ⟨t, _, ht⟩ := List.mem_flatMap.1 hu
  simp [Lk.cells] at ht
  rcases ht with rfl | rfl <;> rfl

/-- Who holds a lock: the first entry of its number. -/
def holder (n : Int) : List Lk → Int
  | [] => 0
  | x :: l => if x.number = n then x.holder else holder n l
/-- The list in which somebody (nobody: 0) holds a lock. -/
def setL (n h : Int) : List Lk → List Lk
  | [] => if h = 0 then [] else [⟨n, h⟩]
  | x :: l => if x.number < n then x :: setL n h l else (if h = 0 then [] else [⟨n, h⟩]) ++ (if x.number = n then l else x :: l)
/-- The place of a number: how many entries are ahead of it. -/
def pos (n : Int) : List Lk → Nat
  | [] => 0
  | x :: l => if x.number < n then pos n l + 1 else 0
def Asc (l : List Lk) : Prop := l.Pairwise fun a b => a.number < b.number
def Fit (l : List Lk) : Prop := ∀ x ∈ l, (-9223372036854775808 ≤ x.number ∧ x.number < 0) ∧ (x.holder = 1 ∨ x.holder = 2)

theorem pos_le (n : Int) : ∀ l, pos n l ≤ l.length
  | [] => Nat.le_refl _
  | x :: l => by have := pos_le n l; simp only [pos, List.length_cons]; split <;> omega
theorem pos_lt (n : Int) : ∀ (l : List Lk) (k : Nat) (x : Lk), k < pos n l → l[k]? = some x → x.number < n
  | [], k, x, h, _ => by simp [pos] at h
  | y :: l, k, x, h, hx => by
    simp only [pos] at h
    split at h
    · match k, hx with
      | 0, hx => simp at hx; subst hx; assumption
      | k + 1, hx => exact pos_lt n l k x (by omega) (by simpa using hx)
    · omega
theorem pos_of {n : Int} : ∀ {l : List Lk} {i : Nat}, i ≤ l.length → (∀ (k : Nat) (x : Lk), k < i → l[k]? = some x → x.number < n) → (∀ x, l[i]? = some x → ¬ x.number < n) → pos n l = i
  | [], i, h, _, _ => by simp at h; subst h; rfl
  | y :: l, 0, _, _, h => by have := h y rfl; simp [pos, this]
  | y :: l, i + 1, h, h1, h2 => by
    have h0 := h1 0 y (by omega) rfl
    have ih := pos_of (n := n) (l := l) (i := i) (by simpa using h) (fun k x hk hx => h1 (k + 1) x (by omega) (by simpa using hx)) (fun x hx => h2 x (by simpa using hx))
    simp [pos, h0, ih]
/-- Whether there is an entry of a number, at its place. -/
def thereB (n : Int) (l : List Lk) : Bool := match l[pos n l]? with | some x => decide (x.number = n) | none => false

theorem asc_at {l : List Lk} (h : Asc l) {i j : Nat} {x y : Lk} (hij : i < j) (hx : l[i]? = some x) (hy : l[j]? = some y) : x.number < y.number := by
  obtain ⟨hi, rfl⟩ := List.getElem?_eq_some_iff.1 hx
  obtain ⟨hj, rfl⟩ := List.getElem?_eq_some_iff.1 hy
  exact (List.pairwise_iff_getElem.1 h) i j hi hj hij
theorem asc_tail {x : Lk} {l : List Lk} (h : Asc (x :: l)) : Asc l := (List.pairwise_cons.1 h).2
theorem asc_head {x : Lk} {l : List Lk} (h : Asc (x :: l)) : ∀ y ∈ l, x.number < y.number := (List.pairwise_cons.1 h).1
theorem holder_none {n : Int} : ∀ {l : List Lk}, (∀ y ∈ l, y.number ≠ n) → holder n l = 0
  | [], _ => rfl
  | x :: l, h => by simp [holder, h x (by simp), holder_none (l := l) (fun y hy => h y (by simp [hy]))]
/-- On a list in order the place tells who holds. -/
theorem holder_pos (n : Int) : ∀ {l : List Lk}, Asc l → holder n l = match l[pos n l]? with | some x => if x.number = n then x.holder else 0 | none => 0
  | [], _ => rfl
  | x :: l, h => by
    by_cases hx : x.number < n
    · have hne : ¬ x.number = n := by omega
      simp only [holder, pos, if_pos hx, if_neg hne, List.getElem?_cons_succ]
      exact holder_pos n (asc_tail h)
    · simp only [holder, pos, if_neg hx, List.getElem?_cons_zero]
      by_cases he : x.number = n
      · simp [he]
      · rw [if_neg he, if_neg he]
        exact holder_none fun y hy => by have := asc_head h y hy; omega
theorem setL_pos (n h : Int) : ∀ l : List Lk, setL n h l = l.take (pos n l) ++ ((if h = 0 then [] else [⟨n, h⟩]) ++ (if thereB n l = true then l.drop (pos n l + 1) else l.drop (pos n l)))
  | [] => by simp [setL, pos, thereB]
  | x :: l => by
    have ih := setL_pos n h l
    by_cases hx : x.number < n
    · have ht : thereB n (x :: l) = thereB n l := by simp [thereB, pos, hx]
      simp only [setL, pos, if_pos hx, ht, List.take_succ_cons, List.drop_succ_cons, ih, List.cons_append]
    · by_cases he : x.number = n <;> simp [setL, pos, hx, he, thereB]
theorem holder_set {n m h : Int} : ∀ {l : List Lk}, Asc l → holder n (setL m h l) = if n = m then h else holder n l
  | [], _ => by
    by_cases h0 : h = 0
    · simp [setL, h0, holder]
    · simp only [setL, if_neg h0, holder]
      by_cases e : m = n
      · simp [e]
      · have : ¬ n = m := fun h => e h.symm
        simp [e, this]
  | x :: l, ha => by
    have ih := holder_set (n := n) (m := m) (h := h) (asc_tail ha)
    by_cases hx : x.number < m
    · simp only [setL, if_pos hx, holder]
      by_cases e : x.number = n
      · have : ¬ n = m := by omega
        simp [e, this]
      · rw [if_neg e, if_neg e, ih]
    · simp only [setL, if_neg hx]
      have hrest : ∀ y ∈ l, x.number < y.number := asc_head ha
      by_cases hm : x.number = m
      · rw [if_pos hm]
        by_cases e : n = m
        · subst e
          rw [if_pos rfl]
          by_cases h0 : h = 0
          · subst h0
            exact holder_none fun y hy => by have := hrest y (by simpa using hy); omega
          · simp [h0, holder]
        · have : ¬ x.number = n := by omega
          have h3 : ¬ m = n := fun h => e h.symm
          by_cases h0 : h = 0 <;> simp [h0, holder, this, e, h3]
      · rw [if_neg hm]
        by_cases e : n = m
        · subst e
          rw [if_pos rfl]
          by_cases h0 : h = 0
          · subst h0
            refine holder_none fun y hy => ?_
            simp at hy
            rcases hy with rfl | hy
            · exact hm
            · have := hrest y hy; omega
          · simp [h0, holder]
        · have h3 : ¬ m = n := fun h => e h.symm
          by_cases h0 : h = 0 <;> simp [h0, holder, e, h3]
theorem mem_set {n h : Int} {y : Lk} : ∀ {l : List Lk}, y ∈ setL n h l → y = ⟨n, h⟩ ∧ h ≠ 0 ∨ y ∈ l
  | [], hy => by
    by_cases h0 : h = 0
    · simp [setL, h0] at hy
    · simp [setL, h0] at hy; exact .inl ⟨hy, h0⟩
  | x :: l, hy => by
    by_cases hx : x.number < n
    · simp only [setL, if_pos hx, List.mem_cons] at hy
      rcases hy with rfl | hy
      · exact .inr (by simp)
      · rcases mem_set hy with h | h
        · exact .inl h
        · exact .inr (by simp [h])
    · simp only [setL, if_neg hx, List.mem_append] at hy
      rcases hy with hy | hy
      · by_cases h0 : h = 0
        · simp [h0] at hy
        · simp [h0] at hy; exact .inl ⟨hy, h0⟩
      · refine .inr ?_
        split at hy
        · simp [hy]
        · exact hy
theorem asc_set {n h : Int} : ∀ {l : List Lk}, Asc l → Asc (setL n h l)
  | [], _ => by
    by_cases h0 : h = 0 <;> simp [setL, h0, Asc]
  | x :: l, ha => by
    have hrest : ∀ y ∈ l, x.number < y.number := asc_head ha
    by_cases hx : x.number < n
    · simp only [setL, if_pos hx]
      refine List.pairwise_cons.2 ⟨fun y hy => ?_, asc_set (asc_tail ha)⟩
      rcases mem_set hy with ⟨rfl, _⟩ | h
      · exact hx
      · exact hrest y h
    · simp only [setL, if_neg hx]
      by_cases hm : x.number = n
      · rw [if_pos hm]
        by_cases h0 : h = 0
        · simpa [h0] using asc_tail ha
        · simp only [if_neg h0, List.singleton_append]
          exact List.pairwise_cons.2 ⟨fun y hy => by have := hrest y hy; show n < _; omega, asc_tail ha⟩
      · rw [if_neg hm]
        by_cases h0 : h = 0
        · simpa [h0] using ha
        · simp only [if_neg h0, List.singleton_append]
          refine List.pairwise_cons.2 ⟨fun y hy => ?_, ha⟩
          simp at hy
          rcases hy with rfl | hy
          · show n < _; omega
          · have := hrest y hy; show n < _; omega
theorem fit_set {n h : Int} {l : List Lk} (hf : Fit l) (hn : -9223372036854775808 ≤ n ∧ n < 0) (hh : h = 0 ∨ h = 1 ∨ h = 2) : Fit (setL n h l) := by
  intro x hx
  rcases mem_set hx with ⟨rfl, h0⟩ | h
  · exact ⟨hn, by simp only; omega⟩
  · exact hf x h
theorem len_set (n h : Int) : ∀ l : List Lk, (setL n h l).length ≤ l.length + 1
  | [] => by by_cases h0 : h = 0 <;> simp [setL, h0]
  | x :: l => by
    have := len_set n h l
    by_cases hx : x.number < n
    · simp only [setL, if_pos hx, List.length_cons]; omega
    · simp only [setL, if_neg hx, List.length_append]
      have h1 : ((if h = 0 then [] else [⟨n, h⟩] : List Lk)).length ≤ 1 := by split <;> simp
      have h2 : ((if x.number = n then l else x :: l)).length ≤ l.length + 1 := by split <;> simp
      simp only [List.length_cons]; omega
theorem holder_fit {n : Int} : ∀ {l : List Lk}, Fit l → holder n l = 0 ∨ holder n l = 1 ∨ holder n l = 2
  | [], _ => .inl rfl
  | x :: l, h => by
    simp only [holder]
    split
    · exact .inr ((h x (by simp)).2)
    · exact holder_fit (l := l) (fun y hy => h y (by simp [hy]))

/-- Whether locks are valid, entry by entry. -/
def OkAt (l : List Lk) (i : Nat) (x : Lk) : Prop := x.number < 0 ∧ (x.holder = 1 ∨ x.holder = 2) ∧ (0 < i → ∀ y, l[i - 1]? = some y → y.number < x.number)
def ValidP (l : List Lk) : Prop := ∀ (i : Nat) (x : Lk), l[i]? = some x → OkAt l i x
open Classical in
noncomputable def validB (l : List Lk) : Bool := decide (ValidP l)
open Classical in
theorem validB_true {l : List Lk} (h : ∀ (i : Nat) (x : Lk), l[i]? = some x → OkAt l i x) : validB l = true := by simp only [validB]; exact decide_eq_true h
open Classical in
theorem validB_false {l : List Lk} {i : Nat} {x : Lk} (hx : l[i]? = some x) (h : ¬ OkAt l i x) : validB l = false := by
  simp only [validB]; exact decide_eq_false fun hv => h (hv i x hx)
theorem valid_good {l : List Lk} (ha : Asc l) (hf : Fit l) : validB l = true :=
  validB_true fun i x hx => ⟨(hf x (List.mem_of_getElem? hx)).1.2, (hf x (List.mem_of_getElem? hx)).2, fun h0 _ hy => asc_at ha (by omega) hy hx⟩

/-- Take, Give, Hold, Free: the error, and the list. -/
def takeE (n : Int) (l : List Lk) : Int := if 0 ≤ n then 2 else if holder n l = 1 then 13 else 0
def takeL (n : Int) (l : List Lk) : List Lk := if 0 ≤ n then [] else if holder n l = 1 then [] else setL n 2 l
def giveE (n : Int) (_ : List Lk) : Int := if 0 ≤ n then 2 else 0
def giveL (n : Int) (l : List Lk) : List Lk := if 0 ≤ n then [] else if holder n l = 2 then setL n 0 l else l
def holdE (n : Int) (l : List Lk) : Int := if 0 ≤ n then 2 else if holder n l = 0 then 0 else 6
def holdL (n : Int) (l : List Lk) : List Lk := if 0 ≤ n then [] else if holder n l = 0 then setL n 1 l else []
def freeE (n : Int) (l : List Lk) : Int := if 0 ≤ n then 2 else if holder n l = 1 then 0 else 5
def freeL (n : Int) (l : List Lk) : List Lk := if 0 ≤ n then [] else if holder n l = 1 then setL n 0 l else []
end Go.Proofs.Ytkagaelhlghagaa
