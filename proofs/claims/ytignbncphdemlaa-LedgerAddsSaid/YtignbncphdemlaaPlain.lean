/- Accounts and shares as plain data. -/
import Derived.RowKit
namespace Go.Proofs.Ytignbncphdemlaa
open Go.RowKit

structure Shr where
  worker : Int
  steps : Int
def Shr.cells (s : Shr) : List Value := [.int .i64 s.worker, .int .i64 s.steps]
theorem Shr.size (s : Shr) : s.cells.length = 2 := rfl
/-- An account: what is kept (0), lost for six causes (1 to 6), under way (7). -/
abbrev Acc := Nat → Int
def Acc.cells (a : Acc) : List Value := [.int .i64 (a 0), .int .i64 (a 1), .int .i64 (a 2), .int .i64 (a 3), .int .i64 (a 4), .int .i64 (a 5), .int .i64 (a 6), .int .i64 (a 7)]
theorem Acc.size (a : Acc) : (Acc.cells a).length = 8 := rfl
theorem Acc.at_ (a : Acc) (j : Nat) (h : j < 8) : (Acc.cells a)[j]? = some (.int .i64 (a j)) := by
  match j, h with
  | 0, _ => rfl
  | 1, _ => rfl
  | 2, _ => rfl
  | 3, _ => rfl
  | 4, _ => rfl
  | 5, _ => rfl
  | 6, _ => rfl
  | 7, _ => rfl
def put (a : Acc) (f : Nat) (v : Int) : Acc := fun j => if j = f then v else a j
def zero : Acc := fun _ => 0

def inB (n : Nat) (k : Int) : Bool := decide (0 ≤ k) && decide (k < n)
theorem inB_true {n : Nat} {k : Int} (h0 : 0 ≤ k) (h1 : k < n) : inB n k = true := by simp [inB, h0, h1]
theorem inB_false {n : Nat} {k : Int} (h : k < 0 ∨ (n : Int) ≤ k) : inB n k = false := by
  rcases h with h | h
  · simp [inB]; omega
  · simp [inB]; omega

def sumS (s : List Shr) : Int := (s.map (·.steps)).foldl (· + ·) 0
def lostA (a : Acc) : Int := a 1 + a 2 + a 3 + a 4 + a 5 + a 6
/-- One step more of a worker. -/
def stepA (l : List Acc) (k : Nat) : List Acc := l.modify k fun a => put a 7 (a 7 + 1)
/-- Accounts that add up. -/
def tot (a : Acc) : Int := a 0 + a 1 + a 2 + a 3 + a 4 + a 5 + a 6 + a 7
def OkA (T : Int) (a : Acc) : Prop := (∀ j, j < 8 → 0 ≤ a j) ∧ tot a ≤ T
def Ok (T : Int) (l : List Acc) : Prop := ∀ (i : Nat) (a : Acc), l[i]? = some a → OkA T a
theorem OkA.le {T : Int} {a : Acc} (h : OkA T a) : ∀ j, j < 8 → 0 ≤ a j ∧ a j ≤ T := by
  intro j hj
  refine ⟨h.1 j hj, ?_⟩
  have h2 := h.2
  have := h.1 0 (by omega)
  have := h.1 1 (by omega)
  have := h.1 2 (by omega)
  have := h.1 3 (by omega)
  have := h.1 4 (by omega)
  have := h.1 5 (by omega)
  have := h.1 6 (by omega)
  have := h.1 7 (by omega)
  unfold tot at h2
  match j, hj with
  | 0, _ => omega
  | 1, _ => omega
  | 2, _ => omega
  | 3, _ => omega
  | 4, _ => omega
  | 5, _ => omega
  | 6, _ => omega
  | 7, _ => omega
theorem Ok.at_ {T : Int} {l : List Acc} (h : Ok T l) {i : Nat} {a : Acc} (ha : l[i]? = some a) : ∀ j, j < 8 → 0 ≤ a j ∧ a j ≤ T := (h i a ha).le
theorem put_cells (a : Acc) (j : Nat) (hj : j < 8) (v : Int) : Acc.cells (put a j v) = (Acc.cells a).set j (.int .i64 v) := by
  match j, hj with
  | 0, _ => rfl
  | 1, _ => rfl
  | 2, _ => rfl
  | 3, _ => rfl
  | 4, _ => rfl
  | 5, _ => rfl
  | 6, _ => rfl
  | 7, _ => rfl
theorem Ok.modify {T T' : Int} {l : List Acc} (h : Ok T l) (hT : T ≤ T') {k : Nat} {f : Acc → Acc} (hf : ∀ a, l[k]? = some a → OkA T a → OkA T' (f a)) : Ok T' (l.modify k f) := by
  intro i a ha
  rw [List.getElem?_modify] at ha
  by_cases hik : k = i
  · subst hik
    cases hl : l[k]? with
    | none => simp [hl] at ha
    | some b =>
      simp [hl] at ha
      subst ha
      exact hf b hl (h k b hl)
  · simp [hik] at ha
    have := h i a ha
    exact ⟨this.1, by have := this.2; omega⟩
theorem put_same (a : Acc) (j : Nat) (v : Int) : put a j v j = v := by simp [put]
theorem put_other (a : Acc) (j i : Nat) (v : Int) (h : i ≠ j) : put a j v i = a i := by simp [put, h]
theorem step_ok {T : Int} {l : List Acc} (h : Ok T l) (k : Nat) : Ok (T + 1) (stepA l k) := by
  refine h.modify (by omega) fun a _ hb => ⟨fun j hj => ?_, ?_⟩
  · by_cases h7 : j = 7
    · subst h7; rw [put_same]; have := hb.1 7 (by omega); omega
    · rw [put_other _ _ _ _ h7]; exact hb.1 j hj
  · have := hb.2
    simp only [tot, put] at *
    simp
    omega
theorem step_len (l : List Acc) (k : Nat) : (stepA l k).length = l.length := List.length_modify ..
end Go.Proofs.Ytignbncphdemlaa
