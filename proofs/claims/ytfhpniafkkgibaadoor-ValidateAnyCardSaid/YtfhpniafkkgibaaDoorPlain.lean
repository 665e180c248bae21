/- Heaps as plain data: objects with fields, where one lies, what is read, written and put. -/
import Derived.Test.YtfhpniafkkgibaaDoorRows
namespace Go.Proofs.YtfhpniafkkgibaaDoor

structure Val where
  ref : Bool
  n : Int
  deriving DecidableEq
def Val.cells (x : Val) : List Value := [.bool x.ref, .int .i64 x.n]
theorem Val.size (x : Val) : x.cells.length = 2 := rfl
theorem val_one (l : List Val) : ∀ u ∈ l.flatMap Val.cells, u.oneCell' = true := by
  intro u hu
  obtain ⟨t, _, ht⟩ := List.mem_flatMap.1 hu
  simp [Val.cells] at ht
  rcases ht with rfl | rfl <;> rfl
/-- An object as it lies in memory: its fields' slice, and what these are. -/
structure Ob where
  id : Int
  A : Option Addr
  n : Nat
  c : Nat
  s : List Val
def Ob.cells (x : Ob) : List Value := [.int .i64 x.id, .slice x.A x.n x.c]
theorem Ob.size (x : Ob) : x.cells.length = 2 := rfl
theorem ob_one (l : List Ob) : ∀ u ∈ l.flatMap Ob.cells, u.oneCell' = true := by
  intro u hu
  obtain ⟨t, _, ht⟩ := List.mem_flatMap.1 hu
  simp [Ob.cells] at ht
  rcases ht with rfl | rfl <;> rfl
/-- An object as data. -/
structure PO where
  id : Int
  s : List Val
  deriving DecidableEq
def Ob.po (x : Ob) : PO := ⟨x.id, x.s⟩

/-- Where the first object of an identifier is. -/
def idx (id : Int) : List PO → Option Nat
  | [] => none
  | x :: l => if x.id = id then some 0 else (idx id l).map (· + 1)
def idxI (id : Int) (l : List PO) : Int := match idx id l with | some i => i | none => -1
theorem idx_none {id : Int} : ∀ {l : List PO}, (∀ (i : Nat) (x : PO), l[i]? = some x → x.id ≠ id) → idx id l = none
  | [], _ => rfl
  | x :: l, h => by simp [idx, h 0 x rfl, idx_none (l := l) (fun i y hy => h (i + 1) y (by simpa using hy))]
theorem idx_some {id : Int} : ∀ {l : List PO} {i : Nat} {x : PO}, l[i]? = some x → x.id = id → (∀ (j : Nat) (y : PO), j < i → l[j]? = some y → y.id ≠ id) → idx id l = some i
  | [], i, x, h, _, _ => by simp at h
  | y :: l, 0, x, h, hx, _ => by simp at h; subst h; simp [idx, hx]
  | y :: l, i + 1, x, h, hx, hb => by
    have h0 := hb 0 y (by omega) rfl
    have ih := idx_some (l := l) (i := i) (by simpa using h) hx (fun j z hj hz => hb (j + 1) z (by omega) (by simpa using hz))
    simp [idx, h0, ih]
theorem idx_cases (id : Int) : ∀ l : List PO, (idx id l = none ∧ ∀ (i : Nat) (x : PO), l[i]? = some x → x.id ≠ id) ∨ ∃ (i : Nat) (x : PO), idx id l = some i ∧ l[i]? = some x ∧ x.id = id ∧ ∀ (j : Nat) (y : PO), j < i → l[j]? = some y → y.id ≠ id
  | [] => .inl ⟨rfl, by simp⟩
  | x :: l => by
    by_cases h : x.id = id
    · exact .inr ⟨0, x, by simp [idx, h], rfl, h, fun j y hj => absurd hj (by omega)⟩
    · rcases idx_cases id l with ⟨h1, h2⟩ | ⟨i, y, h1, h2, h3, h4⟩
      · refine .inl ⟨by simp [idx, h, h1], fun i y hy => ?_⟩
        match i, hy with
        | 0, hy => simp at hy; subst hy; exact h
        | i + 1, hy => exact h2 i y (by simpa using hy)
      · refine .inr ⟨i + 1, y, by simp [idx, h, h1], by simpa using h2, h3, fun j z hj hz => ?_⟩
        match j, hz with
        | 0, hz => simp at hz; subst hz; exact h
        | j + 1, hz => exact h4 j z (by omega) (by simpa using hz)

/-- What is read from a cell. -/
def readV (id f : Int) (l : List PO) : Option Val := match idx id l with | some i => (match l[i]? with | some x => if 0 ≤ f then x.s[f.toNat]? else none | none => none) | none => none
def readB (id f : Int) (l : List PO) : Bool := (readV id f l).isSome
def readD (id f : Int) (l : List PO) : Val := (readV id f l).getD ⟨false, 0⟩
theorem read_no {id f : Int} {l : List PO} (h : idx id l = none) : readB id f l = false ∧ readD id f l = ⟨false, 0⟩ := by simp [readB, readD, readV, h]
theorem read_neg {id f : Int} {l : List PO} (h : f < 0) : readB id f l = false ∧ readD id f l = ⟨false, 0⟩ := by
  have : ¬ 0 ≤ f := by omega
  have e : readV id f l = none := by
    unfold readV; split
    · split
      · rw [if_neg this]
      · rfl
    · rfl
  simp [readB, readD, e]
theorem read_far {id f : Int} {l : List PO} {i : Nat} {x : PO} (h : idx id l = some i) (hx : l[i]? = some x) (hf : (x.s.length : Int) ≤ f) : readB id f l = false ∧ readD id f l = ⟨false, 0⟩ := by
  have e : readV id f l = none := by
    simp only [readV, h, hx]
    rw [if_pos (by omega), List.getElem?_eq_none (by omega)]
  simp [readB, readD, e]
theorem read_at {id : Int} {j : Nat} {l : List PO} {i : Nat} {x : PO} {v : Val} (h : idx id l = some i) (hx : l[i]? = some x) (hv : x.s[j]? = some v) : readB id (j : Int) l = true ∧ readD id (j : Int) l = v := by
  have e : readV id (j : Int) l = some v := by
    simp only [readV, h, hx]
    rw [if_pos (by omega), Int.toNat_natCast, hv]
  simp [readB, readD, e]
/-- The place where an object of a new identifier is put: ahead of the first greater one. -/
def gt (id : Int) : List PO → Nat
  | [] => 0
  | x :: l => if id < x.id then 0 else gt id l + 1
def putO (o : PO) (l : List PO) : List PO := match idx o.id l with | some i => l.set i o | none => l.take (gt o.id l) ++ [o] ++ l.drop (gt o.id l)
def writeO (i j : Nat) (v : Val) (l : List PO) : List PO := l.modify i fun x => ⟨x.id, x.s.set j v⟩

/-- Whether a heap is valid, object by object. -/
def OkAt (l : List PO) (i : Nat) (x : PO) : Prop := 0 < x.id ∧ (0 < i → ∀ y, l[i - 1]? = some y → y.id < x.id)
def ValidP (l : List PO) : Prop := ∀ (i : Nat) (x : PO), l[i]? = some x → OkAt l i x
open Classical in
noncomputable def validB (l : List PO) : Bool := decide (ValidP l)
open Classical in
theorem validB_true {l : List PO} (h : ∀ (i : Nat) (x : PO), l[i]? = some x → OkAt l i x) : validB l = true := by simp only [validB]; exact decide_eq_true h
open Classical in
theorem validB_false {l : List PO} {i : Nat} {x : PO} (hx : l[i]? = some x) (h : ¬ OkAt l i x) : validB l = false := by
  simp only [validB]; exact decide_eq_false fun hv => h (hv i x hx)
theorem po_at {l : List Ob} {i : Nat} {x : Ob} (h : l[i]? = some x) : (l.map Ob.po)[i]? = some x.po := by rw [List.getElem?_map, h]; rfl
theorem po_at' {l : List Ob} {i : Nat} {y : PO} (h : (l.map Ob.po)[i]? = some y) : ∃ x, l[i]? = some x ∧ y = x.po := by
  rw [List.getElem?_map] at h
  cases hx : l[i]? with
  | none => rw [hx] at h; cases h
  | some x => rw [hx] at h; injection h with h; exact ⟨x, rfl, h.symm⟩
theorem readB_true {id f : Int} {l : List PO} (h : readB id f l = true) : ∃ (i j : Nat) (x : PO), idx id l = some i ∧ l[i]? = some x ∧ f = (j : Int) ∧ j < x.s.length := by
  unfold readB readV at h
  split at h
  · rename_i i hi
    split at h
    · rename_i x hx
      split at h
      · rename_i h0
        refine ⟨i, f.toNat, x, hi, hx, by omega, ?_⟩
        cases hs : x.s[f.toNat]? with
        | none => rw [hs] at h; cases h
        | some v => exact (List.getElem?_eq_some_iff.1 hs).1
      · cases h
    · cases h
  · cases h
/-- What a write leaves. -/
def wroteL (id f : Int) (v : Val) (l : List PO) : List PO := if readB id f l = true then (match idx id l with | some i => writeO i f.toNat v l | none => []) else []
theorem wrote_no {id f : Int} {v : Val} {l : List PO} (h : readB id f l = false) : wroteL id f v l = [] := by simp [wroteL, h]
theorem wrote_at {id : Int} {i j : Nat} {v : Val} {l : List PO} (h : readB id (j : Int) l = true) (hi : idx id l = some i) : wroteL id (j : Int) v l = writeO i j v l := by simp [wroteL, h, hi]
theorem writeO_set {i j : Nat} {v : Val} : ∀ {l : List PO} {x : PO}, l[i]? = some x → writeO i j v l = l.set i ⟨x.id, x.s.set j v⟩ := by
  intro l x hx
  unfold writeO
  apply List.ext_getElem?
  intro k
  rw [List.getElem?_modify, List.getElem?_set]
  by_cases hik : i = k
  · subst hik
    rw [hx, if_pos rfl, if_pos (List.getElem?_eq_some_iff.1 hx).1]
    simp
  · rw [if_neg hik]; simp [hik]
end Go.Proofs.YtfhpniafkkgibaaDoor
