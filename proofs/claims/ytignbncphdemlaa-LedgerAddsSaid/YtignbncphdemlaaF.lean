/- Steps moved in the accounts: the plain law. -/
import Derived.Test.YtignbncphdemlaaB
import Derived.Test.YtignbncphdemlaaD
namespace Go.Proofs.Ytignbncphdemlaa
open Go.RowKit

/-- A share moved from what is under way to field f. -/
def mv1 (f : Nat) (k : Int) (a : Acc) : Acc := put (put a 7 (a 7 - k)) f (a f + k)
def strange (n : Nat) (s : List Shr) : Bool := s.any (fun x => !inB n x.worker)
def moveL (f : Nat) : List Acc → List Shr → Option (List Acc)
  | l, [] => some l
  | l, x :: s => match l[x.worker.toNat]? with
    | none => none
    | some a => if 0 ≤ x.steps ∧ x.steps ≤ a 7 then moveL f (l.modify x.worker.toNat (mv1 f x.steps)) s else none
def resE : Option (List Acc) → List Acc × Int
  | some l => (l, 0)
  | none => ([], 9)
def moveE (f : Nat) (l : List Acc) (s : List Shr) : List Acc × Int := if strange l.length s = true then ([], 2) else resE (moveL f l s)

theorem mv_tot {f : Nat} (hf : f < 7) (k : Int) (a : Acc) : tot (mv1 f k a) = tot a := by
  match f, hf with
  | 0, _ => simp [tot, mv1, put]; omega
  | 1, _ => simp [tot, mv1, put]; omega
  | 2, _ => simp [tot, mv1, put]; omega
  | 3, _ => simp [tot, mv1, put]; omega
  | 4, _ => simp [tot, mv1, put]; omega
  | 5, _ => simp [tot, mv1, put]; omega
  | 6, _ => simp [tot, mv1, put]; omega
theorem mv_ok {f : Nat} (hf : f < 7) {k T : Int} {a : Acc} (h0 : 0 ≤ k) (h1 : k ≤ a 7) (h : OkA T a) : OkA T (mv1 f k a) := by
  refine ⟨fun j hj => ?_, by rw [mv_tot hf]; exact h.2⟩
  unfold mv1
  by_cases hjf : j = f
  · subst hjf
    rw [put_same]
    have := h.1 j hj
    omega
  · rw [put_other _ _ _ _ hjf]
    by_cases hj7 : j = 7
    · subst hj7; rw [put_same]; omega
    · rw [put_other _ _ _ _ hj7]; exact h.1 j hj
theorem moveL_step {f : Nat} {l : List Acc} {x : Shr} {s : List Shr} {a : Acc} (h : l[x.worker.toNat]? = some a) (h0 : 0 ≤ x.steps) (h1 : x.steps ≤ a 7) : moveL f l (x :: s) = moveL f (l.modify x.worker.toNat (mv1 f x.steps)) s := by
  simp [moveL, h, h0, h1]
theorem moveL_stop {f : Nat} {l : List Acc} {x : Shr} {s : List Shr} {a : Acc} (h : l[x.worker.toNat]? = some a) (h0 : ¬ (0 ≤ x.steps ∧ x.steps ≤ a 7)) : moveL f l (x :: s) = none := by
  rw [moveL, h]
  simp only [if_neg h0]
theorem drop_at {α : Type} {s : List α} {k : Nat} {x : α} (h : s[k]? = some x) : s.drop k = x :: s.drop (k + 1) := by
  have hk := (List.getElem?_eq_some_iff.1 h)
  rw [List.drop_eq_getElem_cons hk.1, hk.2]
theorem strange_in {n : Nat} {s : List Shr} (h : strange n s = false) {i : Nat} {x : Shr} (hx : s[i]? = some x) : 0 ≤ x.worker ∧ x.worker < n := by
  rw [strange, List.any_eq_false] at h
  have := h x (List.mem_of_getElem? hx)
  simp [inB] at this
  exact this
theorem moveL_inv {f : Nat} (hf : f < 7) {T : Int} : ∀ {s : List Shr} {l l' : List Acc}, moveL f l s = some l' → Ok T l → l'.length = l.length ∧ Ok T l'
  | [], l, l', h, hok => by simp [moveL] at h; subst h; exact ⟨rfl, hok⟩
  | x :: s, l, l', h, hok => by
    rw [moveL] at h
    cases hl : l[x.worker.toNat]? with
    | none => simp [hl] at h
    | some a =>
      simp only [hl] at h
      by_cases hc : 0 ≤ x.steps ∧ x.steps ≤ a 7
      · rw [if_pos hc] at h
        have := moveL_inv hf h (hok.modify (Int.le_refl _) (fun b hb hbo => by rw [hl] at hb; injection hb with hb; subst hb; exact mv_ok hf hc.1 hc.2 hbo))
        rwa [List.length_modify] at this
      · rw [if_neg hc] at h; cases h
end Go.Proofs.Ytignbncphdemlaa
