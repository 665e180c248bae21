/- Pairs in order as plain data: where one lies, and what training makes of them. -/
import Derived.RowKit
namespace Go.Proofs.Yteeglmlmconbmaa
open Go.RowKit

structure Pr where
  a : Int
  b : Int
  cnt : Int
def Pr.cells (t : Pr) : List Value := [.int .i64 t.a, .int .i64 t.b, .int .i64 t.cnt]
theorem Pr.size (t : Pr) : t.cells.length = 3 := rfl
/-- A pair comes before a key. -/
def Bef (t : Pr) (a b : Int) : Prop := t.a < a ∨ t.a = a ∧ t.b < b
instance (t : Pr) (a b : Int) : Decidable (Bef t a b) := by unfold Bef; infer_instance
def lowb : List Pr → Int → Int → Nat
  | [], _, _ => 0
  | t :: l, a, b => if Bef t a b then lowb l a b + 1 else 0
def Sorted (ts : List Pr) : Prop := ∀ (i j : Nat) (u v : Pr), i < j → ts[i]? = some u → ts[j]? = some v → Bef u v.a v.b
def isB (t : Pr) (a b : Int) : Bool := t.a == a && t.b == b
def hit (ts : List Pr) (a b : Int) : Bool := match ts[lowb ts a b]? with | some t => isB t a b | none => false
theorem lowb_le : ∀ (ts : List Pr) (a b : Int), lowb ts a b ≤ ts.length
  | [], _, _ => Nat.le_refl _
  | t :: l, a, b => by unfold lowb; split <;> simp; exact lowb_le l a b
theorem lowb_lt : ∀ (ts : List Pr) (a b : Int) (j : Nat) (u : Pr), j < lowb ts a b → ts[j]? = some u → Bef u a b
  | [], _, _, _, _, h, _ => by simp [lowb] at h
  | t :: l, a, b, j, u, h, hu => by
    unfold lowb at h
    split at h
    · rename_i hk
      cases j with
      | zero => simp at hu; subst hu; exact hk
      | succ j => exact lowb_lt l a b j u (by omega) (by simpa using hu)
    · omega
theorem lowb_ge : ∀ (ts : List Pr) (a b : Int) (t : Pr), ts[lowb ts a b]? = some t → ¬ Bef t a b
  | [], _, _, _, h => by simp [lowb] at h
  | t :: l, a, b, u, h => by
    unfold lowb at h
    split at h
    · exact lowb_ge l a b u (by simpa using h)
    · simp at h; subst h; assumption
theorem lowb_of {ts : List Pr} {a b : Int} {i : Nat} (hi : i ≤ ts.length) (hlo : ∀ (j : Nat) (u : Pr), j < i → ts[j]? = some u → Bef u a b) (hhi : ∀ t : Pr, ts[i]? = some t → ¬ Bef t a b) : lowb ts a b = i := by
  rcases Nat.lt_trichotomy (lowb ts a b) i with h | h | h
  · have hl : lowb ts a b < ts.length := by omega
    exact absurd (hlo _ _ h (List.getElem?_eq_getElem hl)) (lowb_ge ts a b _ (List.getElem?_eq_getElem hl))
  · exact h
  · have := lowb_le ts a b
    have hl : i < ts.length := by omega
    exact absurd (lowb_lt ts a b i _ h (List.getElem?_eq_getElem hl)) (hhi _ (List.getElem?_eq_getElem hl))
theorem lowb_end {ts : List Pr} {a b : Int} (hlo : ∀ (j : Nat) (u : Pr), j < ts.length → ts[j]? = some u → Bef u a b) : lowb ts a b = ts.length :=
  lowb_of (Nat.le_refl _) hlo (by simp)
theorem hit_at {ts : List Pr} {a b : Int} {t : Pr} (h : ts[lowb ts a b]? = some t) : hit ts a b = isB t a b := by unfold hit; rw [h]
theorem hit_none {ts : List Pr} {a b : Int} (h : ts.length ≤ lowb ts a b) : hit ts a b = false := by unfold hit; rw [List.getElem?_eq_none h]
theorem hit_some {ts : List Pr} {a b : Int} (h : hit ts a b = true) : ∃ t, ts[lowb ts a b]? = some t ∧ t.a = a ∧ t.b = b := by
  unfold hit at h
  split at h
  · rename_i t ht
    refine ⟨t, ht, ?_⟩
    simpa [isB] using h
  · cases h
def Good (ts : List Pr) : Prop := Sorted ts ∧ ∀ (i : Nat) (t : Pr), ts[i]? = some t → 1 ≤ t.cnt ∧ t.cnt ≤ 1048576
def upd (t : Pr) : Pr := ⟨t.a, t.b, if t.cnt ≤ 1048575 then t.cnt + 1 else 1048576⟩
/-- What Train gives. -/
def train (ts : List Pr) (a b : Int) : List Pr :=
  if hit ts a b then ts.modify (lowb ts a b) upd else if ts.length < 256 then ts.take (lowb ts a b) ++ ⟨a, b, 1⟩ :: ts.drop (lowb ts a b) else ts
def countP (ts : List Pr) (a b : Int) : Int := if hit ts a b then (match ts[lowb ts a b]? with | some t => t.cnt | none => 0) else 0
theorem count_hit {ts : List Pr} {a b : Int} {t : Pr} (h : ts[lowb ts a b]? = some t) (hh : hit ts a b = true) : countP ts a b = t.cnt := by simp [countP, hh, h]
theorem count_miss {ts : List Pr} {a b : Int} (hh : hit ts a b = false) : countP ts a b = 0 := by simp [countP, hh]
theorem good_nil : Good [] := ⟨fun i j u v _ h _ => by simp at h, fun i t h => by simp at h⟩
theorem train_len (ts : List Pr) (a b : Int) : (train ts a b).length ≤ ts.length + 1 := by
  unfold train
  split
  · rw [List.length_modify]; omega
  · split
    · simp only [List.length_append, List.length_take, List.length_cons, List.length_drop]; omega
    · omega
end Go.Proofs.Yteeglmlmconbmaa
