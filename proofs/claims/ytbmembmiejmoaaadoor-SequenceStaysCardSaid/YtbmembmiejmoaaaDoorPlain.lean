/- Sequencers as lists of follows: plain functions and facts, no program. -/
import Derived.RowKit
namespace Go.Proofs.YtbmembmiejmoaaaDoor
open Go.RowKit

structure Trk where
  key : Int
  to : Int
  cnt : Int

def Trk.cells (t : Trk) : List Value := [.int .i64 t.key, .int .i64 t.to, .int .i64 t.cnt]
theorem Trk.size (t : Trk) : t.cells.length = 3 := rfl

def lowb : List Trk → Int → Nat
  | [], _ => 0
  | t :: l, k => if t.key < k then lowb l k + 1 else 0
def Sorted (ts : List Trk) : Prop := ∀ (i j : Nat) (u v : Trk), i < j → ts[i]? = some u → ts[j]? = some v → u.key < v.key
def hit (ts : List Trk) (k : Int) : Bool := match ts[lowb ts k]? with | some t => t.key == k | none => false

theorem lowb_le : ∀ (ts : List Trk) (k : Int), lowb ts k ≤ ts.length
  | [], _ => Nat.le_refl _
  | t :: l, k => by unfold lowb; split <;> simp; exact lowb_le l k
theorem lowb_lt : ∀ (ts : List Trk) (k : Int) (j : Nat) (u : Trk), j < lowb ts k → ts[j]? = some u → u.key < k
  | [], _, _, _, h, _ => by simp [lowb] at h
  | t :: l, k, j, u, h, hu => by
    unfold lowb at h
    split at h
    · rename_i hk
      cases j with
      | zero => simp at hu; subst hu; exact hk
      | succ j => exact lowb_lt l k j u (by omega) (by simpa using hu)
    · omega
theorem lowb_ge : ∀ (ts : List Trk) (k : Int) (t : Trk), ts[lowb ts k]? = some t → k ≤ t.key
  | [], _, _, h => by simp [lowb] at h
  | t :: l, k, u, h => by
    unfold lowb at h
    split at h
    · exact lowb_ge l k u (by simpa using h)
    · simp at h; subst h; omega
theorem lowb_of {ts : List Trk} {k : Int} {i : Nat} (hi : i ≤ ts.length) (hlo : ∀ (j : Nat) (u : Trk), j < i → ts[j]? = some u → u.key < k) (hhi : ∀ t : Trk, ts[i]? = some t → k ≤ t.key) : lowb ts k = i := by
  rcases Nat.lt_trichotomy (lowb ts k) i with h | h | h
  · have hl : lowb ts k < ts.length := by omega
    have h1 := lowb_ge ts k _ (List.getElem?_eq_getElem hl)
    have h2 := hlo _ _ h (List.getElem?_eq_getElem hl)
    omega
  · exact h
  · have := lowb_le ts k
    have hl : i < ts.length := by omega
    have h1 := hhi _ (List.getElem?_eq_getElem hl)
    have h2 := lowb_lt ts k i _ h (List.getElem?_eq_getElem hl)
    omega
theorem lowb_end {ts : List Trk} {k : Int} (hlo : ∀ (j : Nat) (u : Trk), j < ts.length → ts[j]? = some u → u.key < k) : lowb ts k = ts.length :=
  lowb_of (Nat.le_refl _) hlo (by simp)
theorem hit_at {ts : List Trk} {k : Int} {t : Trk} (h : ts[lowb ts k]? = some t) : hit ts k = (t.key == k) := by unfold hit; rw [h]
theorem hit_none {ts : List Trk} {k : Int} (h : ts.length ≤ lowb ts k) : hit ts k = false := by unfold hit; rw [List.getElem?_eq_none h]

def fnd (ts : List Trk) (k : Int) : Option Trk := if hit ts k then ts[lowb ts k]? else none
theorem fnd_some {ts : List Trk} {k : Int} (h : hit ts k = true) : ∃ t, ts[lowb ts k]? = some t ∧ fnd ts k = some t ∧ t.key = k := by
  unfold hit at h
  split at h
  · rename_i t ht
    exact ⟨t, ht, by simp [fnd, hit, ht, h], by simpa using h⟩
  · cases h
theorem fnd_none {ts : List Trk} {k : Int} (h : hit ts k = false) : fnd ts k = none := by simp [fnd, h]

/-- What sequencers are: the follows ascend, and counts are from 1 to 3. -/
def Good (ts : List Trk) : Prop := Sorted ts ∧ ∀ (i : Nat) (t : Trk), ts[i]? = some t → 1 ≤ t.cnt ∧ t.cnt ≤ 3

/-- A follow that has seen one task more. -/
def upd (t : Trk) (to : Int) : Trk := if t.to = to then ⟨t.key, t.to, if t.cnt ≤ 2 then t.cnt + 1 else 3⟩ else if t.cnt ≤ 1 then ⟨t.key, to, 1⟩ else ⟨t.key, t.to, t.cnt - 1⟩
/-- What Train gives. -/
def train (ts : List Trk) (k to : Int) : List Trk :=
  if hit ts k then ts.modify (lowb ts k) (upd · to) else ts.take (lowb ts k) ++ ⟨k, to, 1⟩ :: ts.drop (lowb ts k)
theorem upd_key (t : Trk) (to : Int) : (upd t to).key = t.key := by unfold upd; split; (rfl); split <;> rfl
theorem upd_cnt {t : Trk} (to : Int) (h : 1 ≤ t.cnt ∧ t.cnt ≤ 3) : 1 ≤ (upd t to).cnt ∧ (upd t to).cnt ≤ 3 := by
  unfold upd
  split
  · show 1 ≤ (if t.cnt ≤ 2 then t.cnt + 1 else 3) ∧ (if t.cnt ≤ 2 then t.cnt + 1 else 3) ≤ 3
    split <;> omega
  · split
    · show (1 : Int) ≤ 1 ∧ (1 : Int) ≤ 3; omega
    · show 1 ≤ t.cnt - 1 ∧ t.cnt - 1 ≤ 3; omega
/-- Where the next task is guessed to begin. -/
def guessN (ts : List Trk) (k : Int) : Int := match fnd ts k with | some t => t.to | none => 0

theorem train_len (ts : List Trk) (k : Int) (v : Int) : (train ts k v).length ≤ ts.length + 1 := by
  unfold train
  split
  · rw [List.length_modify]; omega
  · simp only [List.length_append, List.length_take, List.length_cons, List.length_drop]; omega
theorem insert_get {ts : List Trk} {i : Nat} {t : Trk} (hi : i ≤ ts.length) (j : Nat) : (ts.take i ++ t :: ts.drop i)[j]? = if j < i then ts[j]? else if j = i then some t else ts[j - 1]? := by
  rw [List.getElem?_append, List.length_take, Nat.min_eq_left hi]
  by_cases h : j < i
  · rw [if_pos h, if_pos h, List.getElem?_take, if_pos h]
  · rw [if_neg h, if_neg h]
    by_cases h2 : j = i
    · subst h2; simp
    · rw [if_neg h2, show j - i = (j - i - 1) + 1 by omega, List.getElem?_cons_succ, List.getElem?_drop, show i + (j - i - 1) = j - 1 by omega]
theorem good_nil : Good [] := ⟨fun i j u v _ h _ => by simp at h, fun i t h => by simp at h⟩
theorem train_good {ts : List Trk} (h : Good ts) (k : Int) (v : Int) : Good (train ts k v) := by
  unfold train
  cases hh : hit ts k
  · rw [if_neg (by simp)]
    have hle := lowb_le ts k
    have hmiss : ∀ t, ts[lowb ts k]? = some t → k < t.key := fun t ht => by
      have h1 := lowb_ge ts k t ht
      have h2 := hit_at ht
      rw [hh] at h2
      have : ¬ t.key = k := by simpa using h2.symm
      omega
    refine ⟨fun i j u w hij hu hw => ?_, fun i t ht => ?_⟩
    · rw [insert_get hle] at hu hw
      by_cases h1 : j < lowb ts k
      · rw [if_pos h1] at hw; rw [if_pos (by omega)] at hu; exact h.1 i j u w hij hu hw
      · rw [if_neg h1] at hw
        by_cases h2 : j = lowb ts k
        · rw [if_pos h2] at hw
          injection hw with hw
          subst hw
          rw [if_pos (by omega)] at hu
          exact lowb_lt ts k i u (by omega) hu
        · rw [if_neg h2] at hw
          by_cases h3 : i < lowb ts k
          · rw [if_pos h3] at hu; exact h.1 i (j - 1) u w (by omega) hu hw
          · rw [if_neg h3] at hu
            by_cases h4 : i = lowb ts k
            · rw [if_pos h4] at hu
              injection hu with hu
              subst hu
              show k < w.key
              by_cases h5 : j - 1 = lowb ts k
              · rw [h5] at hw; exact hmiss w hw
              · have hl : lowb ts k < ts.length := by have := (List.getElem?_eq_some_iff.1 hw).1; omega
                have h6 := hmiss _ (List.getElem?_eq_getElem hl)
                have h7 := h.1 (lowb ts k) (j - 1) _ w (by omega) (List.getElem?_eq_getElem hl) hw
                omega
            · rw [if_neg h4] at hu; exact h.1 (i - 1) (j - 1) u w (by omega) hu hw
    · rw [insert_get hle] at ht
      split at ht
      · exact h.2 _ t ht
      · split at ht
        · injection ht with ht; subst ht; exact ⟨by show (1 : Int) ≤ 1; omega, by show (1 : Int) ≤ 3; omega⟩
        · exact h.2 _ t ht
  · rw [if_pos rfl]
    have hkey : ∀ (i : Nat) (t : Trk), (ts.modify (lowb ts k) (upd · v))[i]? = some t → ∃ u, ts[i]? = some u ∧ t.key = u.key ∧ (1 ≤ t.cnt ∧ t.cnt ≤ 3) := fun i t ht => by
      rw [List.getElem?_modify] at ht
      cases hu : ts[i]? with
      | none => rw [hu] at ht; simp at ht
      | some u =>
        rw [hu] at ht
        have hb := h.2 i u hu
        by_cases hi : lowb ts k = i
        · simp [hi] at ht; subst ht
          exact ⟨u, rfl, upd_key u v, upd_cnt v hb⟩
        · simp [hi] at ht; subst ht
          exact ⟨u, rfl, rfl, hb⟩
    refine ⟨fun i j u w hij hu hw => ?_, fun i t ht => ?_⟩
    · obtain ⟨u', hu', e1, _⟩ := hkey i u hu
      obtain ⟨w', hw', e2, _⟩ := hkey j w hw
      rw [e1, e2]
      exact h.1 i j u' w' hij hu' hw'
    · obtain ⟨_, _, _, hb⟩ := hkey i t ht
      exact hb


theorem guess_hit {ts : List Trk} {k : Int} {t : Trk} (h : ts[lowb ts k]? = some t) (hh : hit ts k = true) : guessN ts k = t.to := by simp [guessN, fnd, hh, h]
theorem guess_miss {ts : List Trk} {k : Int} (hh : hit ts k = false) : guessN ts k = 0 := by simp [guessN, fnd, hh]
end Go.Proofs.YtbmembmiejmoaaaDoor
