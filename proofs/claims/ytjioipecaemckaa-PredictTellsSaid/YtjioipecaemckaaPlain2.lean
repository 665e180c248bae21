/- Predictors stay sound when they are trained; what the examples come to. -/
import Derived.Test.YtjioipecaemckaaPlain
namespace Go.Proofs.Ytjioipecaemckaa
open Go.RowKit
theorem train_len (ts : List Trk) (k : Int) (v : Val) : (train ts k v).length ≤ ts.length + 1 := by
  unfold train
  split
  · rw [List.length_modify]; omega
  · simp only [List.length_append, List.length_take, List.length_cons, List.length_drop]; omega
theorem insert_get {ts : List Trk} {i : Nat} {t : Trk} (hi : i ≤ ts.length) (j : Nat) : (ts.take i ++ t :: ts.drop i)[j]? = if j < i then ts[j]? else if j = i then some t else ts[j - 1]? := by
  rw [List.getElem?_append, List.length_take, Nat.min_eq_left hi]
  by_cases h : j < i
  · rw [if_pos h, if_pos h, List.getElem?_take, if_pos h]
  · rw [if_neg h, if_neg h]
    by_cases h2 : j = i
    · subst h2; simp
    · rw [if_neg h2, show j - i = (j - i - 1) + 1 by omega, List.getElem?_cons_succ, List.getElem?_drop, show i + (j - i - 1) = j - 1 by omega]
theorem good_nil : Good [] := ⟨fun i j u v _ h _ => by simp at h, fun i t h => by simp at h⟩
theorem train_good {ts : List Trk} (h : Good ts) (k : Int) (v : Val) : Good (train ts k v) := by
  unfold train
  cases hh : hit ts k
  · rw [if_neg (by simp)]
    have hle := lowb_le ts k
    have hmiss : ∀ t, ts[lowb ts k]? = some t → k < t.key := fun t ht => by
      have h1 := lowb_ge ts k t ht
      have h2 := hit_at ht
      rw [hh] at h2
      have : ¬ t.key = k := by simpa using h2.symm
      omega
    refine ⟨fun i j u w hij hu hw => ?_, fun i t ht => ?_⟩
    · rw [insert_get hle] at hu hw
      by_cases h1 : j < lowb ts k
      · rw [if_pos h1] at hw; rw [if_pos (by omega)] at hu; exact h.1 i j u w hij hu hw
      · rw [if_neg h1] at hw
        by_cases h2 : j = lowb ts k
        · rw [if_pos h2] at hw
          injection hw with hw
          subst hw
          rw [if_pos (by omega)] at hu
          exact lowb_lt ts k i u (by omega) hu
        · rw [if_neg h2] at hw
          by_cases h3 : i < lowb ts k
          · rw [if_pos h3] at hu; exact h.1 i (j - 1) u w (by omega) hu hw
          · rw [if_neg h3] at hu
            by_cases h4 : i = lowb ts k
            · rw [if_pos h4] at hu
              injection hu with hu
              subst hu
              show k < w.key
              by_cases h5 : j - 1 = lowb ts k
              · rw [h5] at hw; exact hmiss w hw
              · have hl : lowb ts k < ts.length := by have := (List.getElem?_eq_some_iff.1 hw).1; omega
                have h6 := hmiss _ (List.getElem?_eq_getElem hl)
                have h7 := h.1 (lowb ts k) (j - 1) _ w (by omega) (List.getElem?_eq_getElem hl) hw
                omega
            · rw [if_neg h4] at hu; exact h.1 (i - 1) (j - 1) u w (by omega) hu hw
    · rw [insert_get hle] at ht
      split at ht
      · exact h.2 _ t ht
      · split at ht
        · injection ht with ht; subst ht; exact ⟨by show (0 : Int) ≤ 1; omega, by show (1 : Int) ≤ 1073741824; omega⟩
        · exact h.2 _ t ht
  · rw [if_pos rfl]
    have hkey : ∀ (i : Nat) (t : Trk), (ts.modify (lowb ts k) (upd · v))[i]? = some t → ∃ u, ts[i]? = some u ∧ t.key = u.key ∧ (0 ≤ t.seen ∧ t.seen ≤ 1073741824) := fun i t ht => by
      rw [List.getElem?_modify] at ht
      cases hu : ts[i]? with
      | none => rw [hu] at ht; simp at ht
      | some u =>
        rw [hu] at ht
        have hb := h.2 i u hu
        by_cases hi : lowb ts k = i
        · simp [hi] at ht; subst ht
          refine ⟨u, rfl, rfl, ?_⟩
          simp only [upd]
          split <;> omega
        · simp [hi] at ht; subst ht
          exact ⟨u, rfl, rfl, hb⟩
    refine ⟨fun i j u w hij hu hw => ?_, fun i t ht => ?_⟩
    · obtain ⟨u', hu', e1, _⟩ := hkey i u hu
      obtain ⟨w', hw', e2, _⟩ := hkey j w hw
      rw [e1, e2]
      exact h.1 i j u' w' hij hu' hw'
    · obtain ⟨_, _, _, hb⟩ := hkey i t ht
      exact hb

/-- What some values make of a predictor. -/
def trn (ks : List Int) (vs : List Val) : Nat → List Trk
  | 0 => []
  | k + 1 => train (trn ks vs k) (ks.getD k 0 % 16) (vs.getD k ⟨false, 0⟩)
theorem trn_good (ks : List Int) (vs : List Val) : ∀ k, Good (trn ks vs k) ∧ (trn ks vs k).length ≤ k
  | 0 => ⟨good_nil, by simp [trn]⟩
  | k + 1 => by
    have ih := trn_good ks vs k
    exact ⟨train_good ih.1 _ _, by have := train_len (trn ks vs k) (ks.getD k 0 % 16) (vs.getD k ⟨false, 0⟩); simp only [trn]; omega⟩
def exA : List Trk := train [] 9 ⟨false, 3⟩
def exB : List Trk := train exA 9 ⟨false, 5⟩
theorem exB_stride : strideV exB 9 = ⟨false, 7⟩ := by rfl
theorem exB_hit : hit exB 9 = true := by rfl
theorem exB_last : lastV exB 9 = ⟨false, 5⟩ := by rfl
theorem exB_no : hit exB 8 = false := by rfl
theorem exB_last8 : lastV exB 8 = ⟨false, 0⟩ := by rfl
theorem exB_len : exB.length = 1 := by rfl
theorem exA_good : Good exA := train_good good_nil _ _
theorem exB_good : Good exB := train_good exA_good _ _
end Go.Proofs.Ytjioipecaemckaa
