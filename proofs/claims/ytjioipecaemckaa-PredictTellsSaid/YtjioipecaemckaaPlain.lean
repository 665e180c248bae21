/- Predictors as lists of tracks: plain functions and facts, no program. -/
import Derived.RowKit
namespace Go.Proofs.Ytjioipecaemckaa
open Go.RowKit

structure Val where
  ref : Bool
  n : Int
structure Trk where
  key : Int
  last : Val
  stride : Int
  seen : Int

def Val.cells (v : Val) : List Value := [.bool v.ref, .int .i64 v.n]
def Val.value (v : Val) : Value := .agg #[.bool v.ref, .int .i64 v.n]
def Trk.cells (t : Trk) : List Value := [.int .i64 t.key, .bool t.last.ref, .int .i64 t.last.n, .int .i64 t.stride, .int .i64 t.seen]
theorem Trk.size (t : Trk) : t.cells.length = 5 := rfl

def lowb : List Trk → Int → Nat
  | [], _ => 0
  | t :: l, k => if t.key < k then lowb l k + 1 else 0
def Sorted (ts : List Trk) : Prop := ∀ (i j : Nat) (u v : Trk), i < j → ts[i]? = some u → ts[j]? = some v → u.key < v.key
def hit (ts : List Trk) (k : Int) : Bool := match ts[lowb ts k]? with | some t => t.key == k | none => false

theorem lowb_le : ∀ (ts : List Trk) (k : Int), lowb ts k ≤ ts.length
  | [], _ => Nat.le_refl _
  | t :: l, k => by unfold lowb; split <;> simp; exact lowb_le l k
theorem lowb_lt : ∀ (ts : List Trk) (k : Int) (j : Nat) (u : Trk), j < lowb ts k → ts[j]? = some u → u.key < k
  | [], _, _, _, h, _ => by simp [lowb] at h
  | t :: l, k, j, u, h, hu => by
    unfold lowb at h
    split at h
    · rename_i hk
      cases j with
      | zero => simp at hu; subst hu; exact hk
      | succ j => exact lowb_lt l k j u (by omega) (by simpa using hu)
    · omega
theorem lowb_ge : ∀ (ts : List Trk) (k : Int) (t : Trk), ts[lowb ts k]? = some t → k ≤ t.key
  | [], _, _, h => by simp [lowb] at h
  | t :: l, k, u, h => by
    unfold lowb at h
    split at h
    · exact lowb_ge l k u (by simpa using h)
    · simp at h; subst h; omega
theorem lowb_of {ts : List Trk} {k : Int} {i : Nat} (hi : i ≤ ts.length) (hlo : ∀ (j : Nat) (u : Trk), j < i → ts[j]? = some u → u.key < k) (hhi : ∀ t : Trk, ts[i]? = some t → k ≤ t.key) : lowb ts k = i := by
  rcases Nat.lt_trichotomy (lowb ts k) i with h | h | h
  · have hl : lowb ts k < ts.length := by omega
    have h1 := lowb_ge ts k _ (List.getElem?_eq_getElem hl)
    have h2 := hlo _ _ h (List.getElem?_eq_getElem hl)
    omega
  · exact h
  · have := lowb_le ts k
    have hl : i < ts.length := by omega
    have h1 := hhi _ (List.getElem?_eq_getElem hl)
    have h2 := lowb_lt ts k i _ h (List.getElem?_eq_getElem hl)
    omega
theorem lowb_end {ts : List Trk} {k : Int} (hlo : ∀ (j : Nat) (u : Trk), j < ts.length → ts[j]? = some u → u.key < k) : lowb ts k = ts.length :=
  lowb_of (Nat.le_refl _) hlo (by simp)
theorem hit_at {ts : List Trk} {k : Int} {t : Trk} (h : ts[lowb ts k]? = some t) : hit ts k = (t.key == k) := by unfold hit; rw [h]
theorem hit_none {ts : List Trk} {k : Int} (h : ts.length ≤ lowb ts k) : hit ts k = false := by unfold hit; rw [List.getElem?_eq_none h]

def fnd (ts : List Trk) (k : Int) : Option Trk := if hit ts k then ts[lowb ts k]? else none
theorem fnd_some {ts : List Trk} {k : Int} (h : hit ts k = true) : ∃ t, ts[lowb ts k]? = some t ∧ fnd ts k = some t ∧ t.key = k := by
  unfold hit at h
  split at h
  · rename_i t ht
    exact ⟨t, ht, by simp [fnd, hit, ht, h], by simpa using h⟩
  · cases h
theorem fnd_none {ts : List Trk} {k : Int} (h : hit ts k = false) : fnd ts k = none := by simp [fnd, h]

/-- What predictors are: the tracks ascend, and counts are counts. -/
def Good (ts : List Trk) : Prop := Sorted ts ∧ ∀ (i : Nat) (t : Trk), ts[i]? = some t → 0 ≤ t.seen ∧ t.seen ≤ 1073741824

/-- What Last says. -/
def lastV (ts : List Trk) (k : Int) : Val := match fnd ts k with | some t => t.last | none => ⟨false, 0⟩
/-- What Stride says. -/
def strideV (ts : List Trk) (k : Int) : Val := match fnd ts k with | some t => if t.last.ref then t.last else ⟨false, wrap64 (t.last.n + t.stride)⟩ | none => ⟨false, 0⟩
/-- A track that has seen one value more. -/
def upd (t : Trk) (v : Val) : Trk := ⟨t.key, v, if v.ref || t.last.ref then 0 else wrap64 (v.n - t.last.n), if t.seen < 1073741824 then t.seen + 1 else 1073741824⟩
/-- What Train gives. -/
def train (ts : List Trk) (k : Int) (v : Val) : List Trk :=
  if hit ts k then ts.modify (lowb ts k) (upd · v) else ts.take (lowb ts k) ++ ⟨k, v, 0, 1⟩ :: ts.drop (lowb ts k)

def keyOk (s f : Int) : Bool := decide (-1 ≤ s) && decide (s ≤ 2047) && decide (0 ≤ f) && decide (f ≤ 255)
def keyV (s f : Int) : Value := .tuple #[.int .i64 (if keyOk s f then (s + 1) * 256 + f else 0), .int .i64 (if keyOk s f then 0 else 2)]

end Go.Proofs.Ytjioipecaemckaa
