/- What a predictor says after training: plain facts. -/
import Derived.Test.YtjioipecaemckaaPlain2
namespace Go.Proofs.Ytjioipecaemckaa
open Go.RowKit

theorem fnd_spec {ts : List Trk} (h : Sorted ts) {k : Int} {i : Nat} {t : Trk} (ht : ts[i]? = some t) (hk : t.key = k) : lowb ts k = i ∧ hit ts k = true ∧ fnd ts k = some t := by
  have hl := (List.getElem?_eq_some_iff.1 ht).1
  have h1 : lowb ts k = i := lowb_of (by omega) (fun j u hj hu => by have := h j i u t hj hu ht; omega) (fun u hu => by rw [ht] at hu; injection hu with hu; subst hu; omega)
  have h2 : hit ts k = true := by rw [hit_at (by rw [h1]; exact ht), hk]; simp
  exact ⟨h1, h2, by rw [fnd, h2, if_pos rfl, h1, ht]⟩
theorem fnd_at {ts : List Trk} {k : Int} {t : Trk} (h : fnd ts k = some t) : hit ts k = true ∧ ts[lowb ts k]? = some t ∧ t.key = k := by
  unfold fnd at h
  split at h
  · rename_i hh
    refine ⟨hh, h, ?_⟩
    rw [hit_at h] at hh
    simpa using hh
  · cases h
/-- The track that training leaves at its key. -/
def newTrk (ts : List Trk) (k : Int) (v : Val) : Trk := match fnd ts k with | some t => upd t v | none => ⟨k, v, 0, 1⟩
theorem fnd_train {ts : List Trk} (h : Good ts) (k : Int) (v : Val) : hit (train ts k v) k = true ∧ fnd (train ts k v) k = some (newTrk ts k v) := by
  have hg := train_good h k v
  cases hh : hit ts k
  · have hi : (train ts k v)[lowb ts k]? = some ⟨k, v, 0, 1⟩ := by
      rw [train, hh, if_neg (by simp), insert_get (lowb_le ts k), if_neg (by omega), if_pos rfl]
    have h3 := fnd_spec hg.1 hi rfl
    refine ⟨h3.2.1, ?_⟩
    rw [h3.2.2, newTrk, fnd_none hh]
  · obtain ⟨t, ht, hf, hk⟩ := fnd_some hh
    have hi : (train ts k v)[lowb ts k]? = some (upd t v) := by
      rw [train, hh, if_pos rfl, List.getElem?_modify, ht]; simp
    have h3 := fnd_spec (k := k) hg.1 hi hk
    refine ⟨h3.2.1, ?_⟩
    rw [h3.2.2, newTrk, hf]
theorem fnd_other {ts : List Trk} (h : Good ts) {k k' : Int} (v : Val) (hne : k' ≠ k) : fnd (train ts k v) k' = fnd ts k' ∧ hit (train ts k v) k' = hit ts k' := by
  have hg := train_good h k v
  -- whatever is there with this key is there before
  have back : ∀ t, fnd (train ts k v) k' = some t → fnd ts k' = some t ∧ hit ts k' = true := fun t ht => by
    obtain ⟨_, h1, h2⟩ := fnd_at ht
    cases hh : hit ts k
    · rw [train, hh, if_neg (by simp), insert_get (lowb_le ts k)] at h1
      split at h1
      · have := fnd_spec h.1 h1 h2; exact ⟨this.2.2, this.2.1⟩
      · split at h1
        · injection h1 with h1; subst h1; exact absurd h2.symm hne
        · have := fnd_spec h.1 h1 h2; exact ⟨this.2.2, this.2.1⟩
    · obtain ⟨u, hu, _, hk⟩ := fnd_some hh
      rw [train, hh, if_pos rfl, List.getElem?_modify] at h1
      by_cases hi : lowb ts k = lowb (ts.modify (lowb ts k) (upd · v)) k'
      · rw [← hi, hu] at h1
        simp at h1
        subst h1
        exact absurd (hk.symm.trans h2).symm hne
      · simp [hi] at h1
        have := fnd_spec h.1 h1 h2; exact ⟨this.2.2, this.2.1⟩
  have forth : ∀ t, fnd ts k' = some t → fnd (train ts k v) k' = some t ∧ hit (train ts k v) k' = true := fun t ht => by
    obtain ⟨_, h1, h2⟩ := fnd_at ht
    cases hh : hit ts k
    · by_cases hlt : lowb ts k' < lowb ts k
      · have hi : (train ts k v)[lowb ts k']? = some t := by
          rw [train, hh, if_neg (by simp), insert_get (lowb_le ts k), if_pos hlt]; exact h1
        have := fnd_spec hg.1 hi h2; exact ⟨this.2.2, this.2.1⟩
      · have hi : (train ts k v)[lowb ts k' + 1]? = some t := by
          rw [train, hh, if_neg (by simp), insert_get (lowb_le ts k), if_neg (by omega), if_neg (by omega), Nat.add_sub_cancel]; exact h1
        have := fnd_spec hg.1 hi h2; exact ⟨this.2.2, this.2.1⟩
    · obtain ⟨u, hu, _, hk⟩ := fnd_some hh
      have hi : (train ts k v)[lowb ts k']? = some t := by
        rw [train, hh, if_pos rfl, List.getElem?_modify]
        by_cases hi : lowb ts k = lowb ts k'
        · rw [hi, h1] at hu
          injection hu with hu
          subst hu
          exact absurd (h2.symm.trans hk) hne
        · simp [hi, h1]
      have := fnd_spec hg.1 hi h2; exact ⟨this.2.2, this.2.1⟩
  cases h1 : fnd (train ts k v) k' with
  | some t => exact ⟨(back t h1).1.symm, (fnd_at h1).1.trans (back t h1).2.symm⟩
  | none =>
    cases h2 : fnd ts k' with
    | some t => rw [(forth t h2).1] at h1; cases h1
    | none =>
      refine ⟨rfl, ?_⟩
      have n1 : hit (train ts k v) k' = false := by
        cases hh : hit (train ts k v) k'
        · rfl
        · obtain ⟨t, _, hf, _⟩ := fnd_some hh; rw [hf] at h1; cases h1
      have n2 : hit ts k' = false := by
        cases hh : hit ts k'
        · rfl
        · obtain ⟨t, _, hf, _⟩ := fnd_some hh; rw [hf] at h2; cases h2
      rw [n1, n2]
theorem lastV_train {ts : List Trk} (h : Good ts) (k : Int) (v : Val) : lastV (train ts k v) k = v := by
  rw [lastV, (fnd_train h k v).2]
  unfold newTrk
  cases fnd ts k <;> rfl
theorem strideV_train {ts : List Trk} (h : Good ts) (k : Int) (v : Val) : strideV (train ts k v) k = if v.ref then v else ⟨false, wrap64 (v.n + (newTrk ts k v).stride)⟩ := by
  rw [strideV, (fnd_train h k v).2]
  unfold newTrk
  cases fnd ts k <;> rfl
end Go.Proofs.Ytjioipecaemckaa
