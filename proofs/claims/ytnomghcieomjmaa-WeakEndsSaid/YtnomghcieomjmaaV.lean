/- Threads never block, and every step brings the end nearer: plainly. -/
import Derived.Test.YtnomghcieomjmaaT
import Derived.Test.YtnomghcieomjmaaR
namespace Go.Proofs.Ytnomghcieomjmaa
open Go.RowKit

/-- What is left to do of a thread. -/
def undone (n : Nat) (d : Nat → Bool) : Nat := ((List.range n).filter fun i => !d i).length
def left1 (l : List POp) (t : Pt) : Nat := 2 * undone l.length t.done + t.q.length
def left2 : List (List POp) → List Pt → Nat
  | l :: ls, t :: ts => left1 l t + left2 ls ts
  | _, _ => 0
theorem undone_upd {d : Nat → Bool} {n i : Nat} (hi : i < n) (h : d i = false) : undone n (upd d i true) + 1 = undone n d := by
  unfold undone
  induction n with
  | zero => omega
  | succ n ih =>
    rw [List.range_succ, List.filter_append, List.filter_append, List.length_append, List.length_append]
    by_cases hn : i = n
    · subst hn
      have h0 : (List.range i).filter (fun j => !upd d i true j) = (List.range i).filter (fun j => !d j) := List.filter_congr (fun x hx => by
        have := List.mem_range.1 hx
        simp [upd, show ¬ x = i by omega])
      rw [h0]
      simp [upd, h]
    · have := ih (by omega)
      have hu : upd d i true n = d n := by simp [upd, show ¬ n = i from fun e => hn e.symm]
      simp only [List.filter_cons, List.filter_nil, hu]
      omega
theorem left_set : ∀ {ls : List (List POp)} {ts : List Pt} {k : Nat} {l : List POp} {t t' : Pt}, ls[k]? = some l → ts[k]? = some t → left1 l t' < left1 l t → left2 ls (ts.set k t') < left2 ls ts
  | [], _, k, l, t, t', h, _, _ => by simp at h
  | _ :: _, [], k, l, t, t', _, h, _ => by simp at h
  | a :: ls, b :: ts, 0, l, t, t', h1, h2, h3 => by
    simp at h1 h2
    subst h1 h2
    simp only [List.set_cons_zero, left2]
    omega
  | a :: ls, b :: ts, k + 1, l, t, t', h1, h2, h3 => by
    have := left_set (ls := ls) (ts := ts) (k := k) (by simpa using h1) (by simpa using h2) h3
    simp only [List.set_cons_succ, left2]
    omega
theorem left_op {m : Int} {mem : Nat → Int} {t : Pt} {l : List POp} {i : Nat} {o : POp} (hi : i < l.length) (hd : t.done i = false) : left1 l (stepOp m mem t i o).2 < left1 l t := by
  have hk := undone_upd hi hd
  unfold left1
  unfold stepOp
  split
  · split
    · simp only [List.length_append, List.length_cons, List.length_nil]; omega
    · simp only [doneT]; omega
  · split
    · simp only; omega
    · split
      · split
        · simp only; omega
        · simp only; omega
      · simp only [doneT]; omega
theorem left_st {mem : Nat → Int} {t : Pt} {l : List POp} {k : Nat} {x : Wt} (hk : k < t.q.length) : left1 l (stepSt mem t k x).2 < left1 l t := by
  unfold left1 stepSt
  simp only [List.length_eraseIdx, if_pos hk]
  omega
/-- Every step brings the end nearer. -/
theorem stp_left {m : Int} {ths : List (List POp)} {mem mem' : Nat → Int} {ts ts' : List Pt} {v : Mv} (h : Stp m ths mem ts v mem' ts') : left2 ths ts' < left2 ths ts := by
  cases h with
  | op k l t i o hl ht ho hc => exact left_set hl ht (left_op (List.getElem?_eq_some_iff.1 ho).1 (can_done hc))
  | st k l t i x hl ht hx ha => exact left_set hl ht (left_st (List.getElem?_eq_some_iff.1 hx).1)

theorem first_undone {d : Nat → Bool} : ∀ {n : Nat}, (List.range n).all d = false → ∃ i, i < n ∧ d i = false ∧ ∀ j, j < i → d j = true
  | 0, h => by simp at h
  | n + 1, h => by
    cases h1 : (List.range n).all d with
    | false =>
      obtain ⟨i, hi, hd, hj⟩ := first_undone h1
      exact ⟨i, by omega, hd, hj⟩
    | true =>
      refine ⟨n, by omega, ?_, fun j hj => List.all_eq_true.1 h1 j (List.mem_range.2 hj)⟩
      rw [List.range_succ, List.all_append, h1] at h
      simpa using h
/-- A state that has not ended has a move. -/
theorem has_move {m : Int} {ths : List (List POp)} {ts : List Pt} (hk : okB m ths ts = true) (h8 : ∀ l ∈ ths, l.length ≤ 8) (hne : endedP ths ts = false) : movesP m ths ts ≠ [] := by
  have hlen : ts.length = ths.length := by
    unfold okB at hk
    simp only [Bool.and_eq_true, decide_eq_true_eq] at hk
    exact hk.2
  unfold endedP at hne
  rw [decide_eq_true hlen, Bool.true_and, List.all_eq_false] at hne
  obtain ⟨k, hkr, hx⟩ := hne
  have hkl := List.mem_range.1 hkr
  have h1 : ths[k]? = some ths[k] := List.getElem?_eq_getElem hkl
  have h2 : ts[k]? = some (ts[k]'(by omega)) := List.getElem?_eq_getElem (by omega)
  rw [h1, h2] at hx
  simp only [Bool.not_eq_true] at hx
  generalize hl : ths[k] = l at *
  generalize ht : ts[k]'(by omega) = t at *
  have hl8 : l.length ≤ 8 := h8 l (List.mem_of_getElem? h1)
  have hmem : ∃ v, v ∈ movesP m ths ts := by
    unfold endT at hx
    rw [decide_eq_true hl8, Bool.and_true] at hx
    cases hq : t.q with
    | cons x q =>
      refine ⟨⟨k, -1, 0⟩, mem_moves.2 ⟨hk, k, l, t, h1, h2, .inr ⟨0, x, by rw [hq]; rfl, ?_, rfl⟩⟩⟩
      unfold arrB
      split <;> simp
    | nil =>
      rw [hq] at hx
      simp only [List.isEmpty_nil, Bool.true_and] at hx
      obtain ⟨i, hi, hd, hj⟩ := first_undone hx
      refine ⟨⟨k, i, 0⟩, mem_moves.2 ⟨hk, k, l, t, h1, h2, .inl ⟨i, l[i], List.getElem?_eq_getElem hi, ?_, rfl⟩⟩⟩
      unfold canB
      rw [hd, hq, free_of (fun j e hj' _ => by rw [hj j hj']; rfl) (by omega)]
      simp
  obtain ⟨v, hv⟩ := hmem
  intro e
  rw [e] at hv
  cases hv
end Go.Proofs.Ytnomghcieomjmaa
