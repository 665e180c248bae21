/- Moving in one pass is moving in two: the plain law. -/
import Derived.Test.YtignbncphdemlaaI
import Derived.Test.YtignbncphdemlaaH
namespace Go.Proofs.Ytignbncphdemlaa
open Go.RowKit

def addF (f : Nat) (k : Int) (a : Acc) : Acc := put a f (a f + k)
def addL (f : Nat) (l : List Acc) (s : List Shr) : List Acc := s.foldl (fun l x => l.modify x.worker.toNat (addF f x.steps)) l
theorem modify_comm {l : List Acc} {v u : Nat} {p q : Acc → Acc} (h : ∀ a, p (q a) = q (p a)) : (l.modify v p).modify u q = (l.modify u q).modify v p := by
  apply List.ext_getElem?
  intro i
  simp only [List.getElem?_modify]
  by_cases h1 : v = i <;> by_cases h2 : u = i <;> cases l[i]? <;> simp [h1, h2, h]
theorem add_fly {f : Nat} (hf : f < 7) (k j : Int) (a : Acc) : fly j (addF f k a) = addF f k (fly j a) := by
  funext i
  by_cases h1 : i = f
  · subst h1; simp [fly, addF, put]; rw [if_neg (by omega), if_neg (by omega)]
  · by_cases h2 : i = 7
    · subst h2; simp [fly, addF, put, h1]
    · simp [fly, addF, put, h1, h2]
theorem mv_two {f : Nat} (hf : f < 7) (k : Int) (a : Acc) : mv1 f k a = addF f k (fly k a) := by
  have h7 : f ≠ 7 := by omega
  simp [mv1, addF, fly, put, h7]
theorem fly_comm {f : Nat} (hf : f < 7) (u : Nat) (k : Int) : ∀ (s : List Shr) (l : List Acc), flyL (l.modify u (addF f k)) s = (flyL l s).map (fun l => l.modify u (addF f k))
  | [], l => by simp [flyL]
  | x :: s, l => by
    cases ha : l[x.worker.toNat]? with
    | none =>
      have h1 : (l.modify u (addF f k))[x.worker.toNat]? = none := by rw [List.getElem?_modify, ha]; split <;> rfl
      simp [flyL, ha, h1]
    | some a =>
      obtain ⟨b, hb, hb7⟩ : ∃ b, (l.modify u (addF f k))[x.worker.toNat]? = some b ∧ b 7 = a 7 := by
        rw [List.getElem?_modify, ha]
        by_cases hu : u = x.worker.toNat
        · exact ⟨addF f k a, by simp [hu], by rw [addF, put_other _ _ _ _ (by omega)]⟩
        · exact ⟨a, by simp [hu], rfl⟩
      by_cases hc : 0 ≤ x.steps ∧ x.steps ≤ a 7
      · rw [flyL_step ha hc.1 hc.2, flyL_step hb hc.1 (by omega), modify_comm (fun a => (add_fly hf k x.steps a).symm), fly_comm hf u k s]
      · rw [flyL_stop ha hc, flyL_stop hb (by rw [hb7]; exact hc)]; rfl
theorem move_two {f : Nat} (hf : f < 7) : ∀ (s : List Shr) (l : List Acc), moveL f l s = (flyL l s).map (fun l => addL f l s)
  | [], l => by simp [flyL, moveL, addL]
  | x :: s, l => by
    cases ha : l[x.worker.toNat]? with
    | none => simp [flyL, moveL, ha]
    | some a =>
      by_cases hc : 0 ≤ x.steps ∧ x.steps ≤ a 7
      · rw [moveL_step ha hc.1 hc.2, flyL_step ha hc.1 hc.2, move_two hf s]
        have hm : l.modify x.worker.toNat (mv1 f x.steps) = (l.modify x.worker.toNat (fly x.steps)).modify x.worker.toNat (addF f x.steps) := (modify_two ha (mv_two hf _ _).symm).symm
        rw [hm, fly_comm hf, Option.map_map]
        rfl
      · rw [moveL_stop ha hc, flyL_stop ha hc]; rfl
theorem fly_inv {T : Int} : ∀ {s : List Shr} {l l' : List Acc}, flyL l s = some l' → Ok T l → l'.length = l.length ∧ Ok T l' ∧ ∀ (i : Nat) (x : Shr), s[i]? = some x → 0 ≤ x.steps ∧ x.steps ≤ T
  | [], l, l', h, hok => by simp [flyL] at h; subst h; exact ⟨rfl, hok, fun i x hx => by simp at hx⟩
  | x :: s, l, l', h, hok => by
    rw [flyL] at h
    cases hl : l[x.worker.toNat]? with
    | none => simp [hl] at h
    | some a =>
      simp only [hl] at h
      by_cases hc : 0 ≤ x.steps ∧ x.steps ≤ a 7
      · rw [if_pos hc] at h
        obtain ⟨h1, h2, h3⟩ := fly_inv h (hok.modify (Int.le_refl _) (fun b hb hbo => by rw [hl] at hb; injection hb with hb; subst hb; exact fly_ok hc.1 hc.2 hbo))
        rw [List.length_modify] at h1
        refine ⟨h1, h2, fun i y hy => ?_⟩
        match i, hy with
        | 0, hy => simp at hy; subst hy; have := hok.at_ hl 7 (by omega); omega
        | i + 1, hy => exact h3 i y (by simpa using hy)
      · rw [if_neg hc] at h; cases h
def Bnd (B : Int) (l : List Acc) : Prop := ∀ (i : Nat) (a : Acc), l[i]? = some a → ∀ j, j < 8 → 0 ≤ a j ∧ a j ≤ B
theorem Bnd.add {B T : Int} {l : List Acc} (h : Bnd B l) {k : Int} (h0 : 0 ≤ k) (h1 : k ≤ T) (u f : Nat) : Bnd (B + T) (l.modify u (addF f k)) := by
  intro i a ha j hj
  rw [List.getElem?_modify] at ha
  by_cases hu : u = i
  · subst hu
    cases hl : l[u]? with
    | none => simp [hl] at ha
    | some b =>
      simp [hl] at ha
      subst ha
      have h2 := h u b hl j hj
      by_cases hjf : j = f
      · subst hjf; rw [addF, put_same]; omega
      · rw [addF, put_other _ _ _ _ hjf]; omega
  · simp [hu] at ha
    have := h i a ha j hj
    omega
theorem addL_snoc {f : Nat} {l : List Acc} {s : List Shr} {j : Nat} {x : Shr} (h : s[j]? = some x) : addL f l (s.take (j + 1)) = (addL f l (s.take j)).modify x.worker.toNat (addF f x.steps) := by
  rw [List.take_add_one, h, addL, List.foldl_append]; rfl
theorem keep_cases (l : List Acc) (s : List Shr) : (flyE 0 l s = ([], 2) ∧ moveE 0 l s = ([], 2)) ∨ (flyE 0 l s = ([], 9) ∧ moveE 0 l s = ([], 9)) ∨
    ∃ l', flyE 0 l s = (l', 0) ∧ strange l.length s = false ∧ flyL l s = some l' ∧ moveE 0 l s = (addL 0 l' s, 0) := by
  cases hst : strange l.length s with
  | true => exact .inl ⟨by simp [flyE, hst], by simp [moveE, hst]⟩
  | false =>
    cases hf : flyL l s with
    | none => exact .inr (.inl ⟨by simp [flyE, hst, hf, resE], by simp [moveE, hst, move_two, hf, resE]⟩)
    | some l' => exact .inr (.inr ⟨l', by simp [flyE, hst, hf, resE], rfl, rfl, by simp [moveE, hst, move_two, hf, resE]⟩)
theorem lose_cases (k : Int) (l : List Acc) (s : List Shr) : (flyE k l s = ([], 2) ∧ loseE k l s = ([], 2)) ∨ (flyE k l s = ([], 9) ∧ loseE k l s = ([], 9)) ∨
    ∃ l', ∃ cz : Nat, k = cz ∧ cz < 6 ∧ flyE k l s = (l', 0) ∧ strange l.length s = false ∧ flyL l s = some l' ∧ loseE k l s = (addL (1 + cz) l' s, 0) := by
  by_cases hk : 0 ≤ k ∧ k < 6
  · obtain ⟨cz, rfl⟩ := Int.eq_ofNat_of_zero_le hk.1
    have hc : cz < 6 := by omega
    cases hst : strange l.length s with
    | true => exact .inl ⟨by simp [flyE, hst], by simp [loseE, moveE, hst]⟩
    | false =>
      cases hf : flyL l s with
      | none => exact .inr (.inl ⟨by simp [flyE, hst, hf, resE, hk], by simp [loseE, moveE, hst, move_two (show 1 + cz < 7 by omega), hf, resE, hk]⟩)
      | some l' => exact .inr (.inr ⟨l', cz, rfl, hc, by simp [flyE, hst, hf, resE, hk], rfl, rfl, by simp [loseE, moveE, hst, move_two (show 1 + cz < 7 by omega), hf, resE, hk]⟩)
  · exact .inl ⟨by rw [flyE, if_neg hk]; split <;> rfl, by rw [loseE, if_neg hk]⟩
theorem addL_len (f : Nat) : ∀ (s : List Shr) (l : List Acc), (addL f l s).length = l.length
  | [], l => rfl
  | x :: s, l => by
    have := addL_len f s (l.modify x.worker.toNat (addF f x.steps))
    rw [List.length_modify] at this
    exact this
end Go.Proofs.Ytignbncphdemlaa
