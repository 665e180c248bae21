/- What a sequencer guesses after training: plain facts. -/
import Derived.Test.YtbmembmiejmoaaaDoorPlain
namespace Go.Proofs.YtbmembmiejmoaaaDoor
open Go.RowKit

theorem fnd_spec {ts : List Trk} (h : Sorted ts) {k : Int} {i : Nat} {t : Trk} (ht : ts[i]? = some t) (hk : t.key = k) : lowb ts k = i ∧ hit ts k = true ∧ fnd ts k = some t := by
  have hl := (List.getElem?_eq_some_iff.1 ht).1
  have h1 : lowb ts k = i := lowb_of (by omega) (fun j u hj hu => by have := h j i u t hj hu ht; omega) (fun u hu => by rw [ht] at hu; injection hu with hu; subst hu; omega)
  have h2 : hit ts k = true := by rw [hit_at (by rw [h1]; exact ht), hk]; simp
  exact ⟨h1, h2, by rw [fnd, h2, if_pos rfl, h1, ht]⟩
theorem fnd_at {ts : List Trk} {k : Int} {t : Trk} (h : fnd ts k = some t) : hit ts k = true ∧ ts[lowb ts k]? = some t ∧ t.key = k := by
  unfold fnd at h
  split at h
  · rename_i hh
    refine ⟨hh, h, ?_⟩
    rw [hit_at h] at hh
    simpa using hh
  · cases h
/-- The follow that training leaves at its place. -/
def newTrk (ts : List Trk) (k : Int) (v : Int) : Trk := match fnd ts k with | some t => upd t v | none => ⟨k, v, 1⟩
theorem fnd_train {ts : List Trk} (h : Good ts) (k : Int) (v : Int) : hit (train ts k v) k = true ∧ fnd (train ts k v) k = some (newTrk ts k v) := by
  have hg := train_good h k v
  cases hh : hit ts k
  · have hi : (train ts k v)[lowb ts k]? = some ⟨k, v, 1⟩ := by
      rw [train, hh, if_neg (by simp), insert_get (lowb_le ts k), if_neg (by omega), if_pos rfl]
    have h3 := fnd_spec hg.1 hi rfl
    refine ⟨h3.2.1, ?_⟩
    rw [h3.2.2, newTrk, fnd_none hh]
  · obtain ⟨t, ht, hf, hk⟩ := fnd_some hh
    have hi : (train ts k v)[lowb ts k]? = some (upd t v) := by
      rw [train, hh, if_pos rfl, List.getElem?_modify, ht]; simp
    have h3 := fnd_spec (k := k) hg.1 hi ((upd_key t v).trans hk)
    refine ⟨h3.2.1, ?_⟩
    rw [h3.2.2, newTrk, hf]

/-- How near a place is to being guessed as a, and firmly: 5 is firm. -/
def lev (ts : List Trk) (k a : Int) : Int := match fnd ts k with | some t => if t.to = a then 2 + t.cnt else 3 - t.cnt | none => 2
theorem fnd_cnt {ts : List Trk} (h : Good ts) {k : Int} {t : Trk} (hf : fnd ts k = some t) : 1 ≤ t.cnt ∧ t.cnt ≤ 3 := h.2 _ t (fnd_at hf).2.1
theorem lev_nn {ts : List Trk} (h : Good ts) (k a : Int) : 0 ≤ lev ts k a := by
  unfold lev
  split
  · rename_i t hf
    have := fnd_cnt h hf
    split <;> omega
  · omega
theorem lev_up {ts : List Trk} (h : Good ts) (k a : Int) (m : Int) (hm : m ≤ lev ts k a) (h5 : m + 1 ≤ 5) : m + 1 ≤ lev (train ts k a) k a := by
  have e := (fnd_train h k a).2
  unfold lev at hm
  unfold lev
  rw [e]
  simp only
  unfold newTrk
  split at hm
  · rename_i t hf
    have hc := fnd_cnt h hf
    by_cases ht : t.to = a
    · rw [if_pos ht] at hm
      simp only [upd, if_pos ht]
      split <;> omega
    · rw [if_neg ht] at hm
      simp only [upd, if_neg ht]
      by_cases h1 : t.cnt ≤ 1
      · simp only [if_pos h1, if_true]; omega
      · simp only [if_neg h1, if_neg ht]; omega
  · simp only [if_true]
    omega
/-- Firm: a is guessed, also after one other. -/
theorem lev_firm {ts : List Trk} (h : Good ts) {k a b : Int} (hab : a ≠ b) (h5 : 5 ≤ lev ts k a) : hit (train ts k b) k = true ∧ guessN (train ts k b) k = a ∧ 1 ≤ lev (train ts k b) k b := by
  have e := fnd_train h k b
  unfold lev at h5
  split at h5
  · rename_i t hf
    have hc := fnd_cnt h hf
    split at h5
    · rename_i ht
      have hu : newTrk ts k b = ⟨t.key, t.to, t.cnt - 1⟩ := by
        unfold newTrk
        rw [hf]
        simp only
        unfold upd
        rw [if_neg (by rw [ht]; exact hab), if_neg (by omega)]
      refine ⟨e.1, ?_, ?_⟩
      · unfold guessN; rw [e.2, hu]; exact ht
      · unfold lev; rw [e.2, hu]; simp only; rw [if_neg (by rw [ht]; exact hab)]; omega
    · omega
  · omega
theorem lev_guess {ts : List Trk} (h : Good ts) {k a : Int} (h4 : 3 ≤ lev ts k a) : hit ts k = true ∧ guessN ts k = a := by
  unfold lev at h4
  split at h4
  · rename_i t hf
    have hc := fnd_cnt h hf
    split at h4
    · rename_i ht
      exact ⟨(fnd_at hf).1, by unfold guessN; rw [hf]; exact ht⟩
    · omega
  · omega
end Go.Proofs.YtbmembmiejmoaaaDoor
