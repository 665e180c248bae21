/- Steps, plainly: a function, and what every state that is reached keeps. -/
import Derived.Test.YtnomghcieomjmaaP
namespace Go.Proofs.Ytnomghcieomjmaa
open Go.RowKit

def stepF (m : Int) (ths : List (List POp)) (mem : Nat → Int) (ts : List Pt) (v : Mv) : (Nat → Int) × List Pt :=
  match ths[v.thread.toNat]?, ts[v.thread.toNat]? with
  | some l, some t =>
    if v.op < 0 then
      match t.q[v.store.toNat]? with
      | some x => ((stepSt mem t v.store.toNat x).1, ts.set v.thread.toNat (stepSt mem t v.store.toNat x).2)
      | none => (mem, ts)
    else
      match l[v.op.toNat]? with
      | some o => ((stepOp m mem t v.op.toNat o).1, ts.set v.thread.toNat (stepOp m mem t v.op.toNat o).2)
      | none => (mem, ts)
  | _, _ => (mem, ts)
theorem stp_fun {m : Int} {ths : List (List POp)} {mem mem' : Nat → Int} {ts ts' : List Pt} {v : Mv} (h : Stp m ths mem ts v mem' ts') : stepF m ths mem ts v = (mem', ts') := by
  cases h with
  | op k l t i o hl ht ho hc =>
    unfold stepF
    simp only [Int.toNat_natCast, hl, ht]
    rw [if_neg (by omega), ho]
  | st k l t i x hl ht hx ha =>
    unfold stepF
    simp only [Int.toNat_natCast, hl, ht]
    rw [if_pos (by omega), hx]

def runF (m : Int) (ths : List (List POp)) : (Nat → Int) → List Pt → List Mv → ((Nat → Int) × List Pt) × Nat × Int
  | mem, ts, [] => ((mem, ts), 0, 0)
  | mem, ts, v :: l => if v ∈ movesP m ths ts then
      let r := runF m ths (stepF m ths mem ts v).1 (stepF m ths mem ts v).2 l
      (r.1, r.2.1 + 1, r.2.2)
    else ((mem, ts), 0, 7)

/-- How many operations of a thread are done. -/
def dn (d : Nat → Bool) : Nat := ((List.range 8).filter d).length
/-- What every state that is reached keeps. -/
def InvT (t : Pt) : Prop := (∀ x ∈ t.q, 0 ≤ x.word ∧ x.word ≤ 3) ∧ t.q.length ≤ dn t.done
def Inv (ts : List Pt) : Prop := ∀ t ∈ ts, InvT t
theorem dn_le (d : Nat → Bool) : dn d ≤ 8 := Nat.le_trans (List.length_filter_le _ _) (by simp)
theorem dn_upd {d : Nat → Bool} {i : Nat} (hi : i < 8) (h : d i = false) : dn (upd d i true) = dn d + 1 := by
  unfold dn
  have hg : ∀ n, i < n → ((List.range n).filter (upd d i true)).length = ((List.range n).filter d).length + 1 := fun n => by
    induction n with
    | zero => intro h; omega
    | succ n ih =>
      intro hin
      rw [List.range_succ, List.filter_append, List.filter_append, List.length_append, List.length_append]
      by_cases hn : i = n
      · subst hn
        have h0 : (List.range i).filter (upd d i true) = (List.range i).filter d := List.filter_congr (fun x hx => by
          have := List.mem_range.1 hx
          simp [upd, show ¬ x = i by omega])
        rw [h0]
        simp [upd, h]
      · rw [ih (by omega)]
        have : upd d i true n = d n := by simp [upd, show ¬ n = i from fun e => hn e.symm]
        simp only [List.filter_cons, List.filter_nil, this]
        omega
  exact hg 8 hi
theorem can_done {m : Int} {l : List POp} {d : Nat → Bool} {qe : Bool} {i : Nat} {o : POp} (h : canB m l d qe i o = true) : d i = false := by
  unfold canB at h
  simp only [Bool.and_eq_true, Bool.not_eq_true'] at h
  exact h.1.1
theorem inv_op {m : Int} {mem : Nat → Int} {t : Pt} {i : Nat} {o : POp} (h : InvT t) (hi : i < 8) (hd : t.done i = false) (hw : 0 ≤ o.word ∧ o.word ≤ 3) : InvT (stepOp m mem t i o).2 := by
  have hk := dn_upd hi hd
  have h1 : InvT ⟨upd t.done i true, t.regs, t.q⟩ := ⟨h.1, by have := h.2; simp only; omega⟩
  have h1' : ∀ r, InvT ⟨upd t.done i true, r, t.q⟩ := fun r => ⟨h.1, by have := h.2; simp only; omega⟩
  unfold stepOp
  split
  · split
    · refine ⟨fun x hx => ?_, ?_⟩
      · rcases List.mem_append.1 hx with hx | hx
        · exact h.1 x hx
        · simp at hx; subst hx; exact hw
      · simp only [List.length_append, List.length_cons, List.length_nil]
        have := h.2
        omega
    · exact h1
  · split
    · exact h1' _
    · split
      · split
        · exact h1' _
        · exact h1' _
      · exact h1
theorem inv_st {mem : Nat → Int} {t : Pt} {k : Nat} {x : Wt} (h : InvT t) : InvT (stepSt mem t k x).2 := by
  refine ⟨fun y hy => h.1 y (List.mem_of_mem_eraseIdx hy), ?_⟩
  have := h.2
  have h2 : (t.q.eraseIdx k).length ≤ t.q.length := by rw [List.length_eraseIdx]; split <;> omega
  simp only [stepSt]
  omega
theorem inv_set {ts : List Pt} {k : Nat} {t : Pt} (h : Inv ts) (ht : InvT t) : Inv (ts.set k t) := fun x hx => by
  rcases List.mem_or_eq_of_mem_set hx with hx | rfl
  · exact h x hx
  · exact ht
end Go.Proofs.Ytnomghcieomjmaa
