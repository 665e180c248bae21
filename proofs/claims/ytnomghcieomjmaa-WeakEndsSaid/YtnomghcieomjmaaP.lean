/- A move is made: what it does, plainly. -/
import Derived.Test.YtnomghcieomjmaaO
import Derived.Test.YtnomghcieomjmaaL
namespace Go.Proofs.Ytnomghcieomjmaa
open Go.RowKit

def doneT (t : Pt) (i : Nat) : Pt := ⟨upd t.done i true, t.regs, t.q⟩
def stepOp (m : Int) (mem : Nat → Int) (t : Pt) (i : Nat) (o : POp) : (Nat → Int) × Pt :=
  if o.kind = 1 then (if queuesB m then (mem, ⟨upd t.done i true, t.regs, t.q ++ [⟨o.word, o.n⟩]⟩) else (upd mem o.word.toNat o.n, doneT t i))
  else if o.kind = 2 then (mem, ⟨upd t.done i true, upd t.regs o.reg.toNat (loadB mem t.q o.word.toNat), t.q⟩)
  else if o.kind = 4 then (if mem o.word.toNat = o.n then (upd mem o.word.toNat o.m, ⟨upd t.done i true, upd t.regs o.reg.toNat 1, t.q⟩) else (mem, ⟨upd t.done i true, upd t.regs o.reg.toNat 0, t.q⟩))
  else (mem, doneT t i)
def stepSt (mem : Nat → Int) (t : Pt) (k : Nat) (x : Wt) : (Nat → Int) × Pt := (upd mem x.word.toNat x.n, ⟨t.done, t.regs, t.q.eraseIdx k⟩)
/-- The move v leads from one state to another. -/
inductive Stp (m : Int) (ths : List (List POp)) (mem : Nat → Int) (ts : List Pt) : Mv → (Nat → Int) → List Pt → Prop
  | op (k : Nat) (l : List POp) (t : Pt) (i : Nat) (o : POp) (hl : ths[k]? = some l) (ht : ts[k]? = some t) (ho : l[i]? = some o) (hc : canB m l t.done t.q.isEmpty i o = true) : Stp m ths mem ts ⟨k, i, 0⟩ (stepOp m mem t i o).1 (ts.set k (stepOp m mem t i o).2)
  | st (k : Nat) (l : List POp) (t : Pt) (i : Nat) (x : Wt) (hl : ths[k]? = some l) (ht : ts[k]? = some t) (hx : t.q[i]? = some x) (ha : arrB m t.q i x = true) : Stp m ths mem ts ⟨k, -1, i⟩ (stepSt mem t i x).1 (ts.set k (stepSt mem t i x).2)

theorem mem_moves {m : Int} {ths : List (List POp)} {ts : List Pt} {v : Mv} : v ∈ movesP m ths ts ↔ okB m ths ts = true ∧ ∃ (k : Nat) (l : List POp) (t : Pt), ths[k]? = some l ∧ ts[k]? = some t ∧ ((∃ (i : Nat) (o : POp), l[i]? = some o ∧ canB m l t.done t.q.isEmpty i o = true ∧ v = ⟨k, i, 0⟩) ∨ (∃ (i : Nat) (x : Wt), t.q[i]? = some x ∧ arrB m t.q i x = true ∧ v = ⟨k, -1, i⟩)) := by
  unfold movesP
  cases hk : okB m ths ts with
  | false => simp
  | true =>
    simp only [if_true, true_and]
    unfold mvs
    rw [List.mem_flatMap]
    constructor
    · rintro ⟨k, hkl, hv⟩
      unfold thMv at hv
      split at hv
      · rename_i l t hl ht
        refine ⟨k, l, t, hl, ht, ?_⟩
        rcases List.mem_append.1 hv with hv | hv
        · obtain ⟨i, _, hi⟩ := List.mem_filterMap.1 hv
          unfold opMv at hi
          obtain ⟨o, ho, hi⟩ := Option.bind_eq_some_iff.1 hi
          split at hi
          · rename_i hc
            injection hi with hi
            exact .inl ⟨i, o, ho, hc, hi.symm⟩
          · cases hi
        · obtain ⟨i, _, hi⟩ := List.mem_filterMap.1 hv
          unfold stMv at hi
          obtain ⟨x, hx, hi⟩ := Option.bind_eq_some_iff.1 hi
          split at hi
          · rename_i hc
            injection hi with hi
            exact .inr ⟨i, x, hx, hc, hi.symm⟩
          · cases hi
      · simp at hv
    · rintro ⟨k, l, t, hl, ht, h⟩
      refine ⟨k, List.mem_range.2 (List.getElem?_eq_some_iff.1 hl).1, ?_⟩
      unfold thMv
      rw [hl, ht]
      rcases h with ⟨i, o, ho, hc, rfl⟩ | ⟨i, x, hx, ha, rfl⟩
      · refine List.mem_append.2 (.inl (List.mem_filterMap.2 ⟨i, List.mem_range.2 (List.getElem?_eq_some_iff.1 ho).1, ?_⟩))
        simp [opMv, ho, hc]
      · refine List.mem_append.2 (.inr (List.mem_filterMap.2 ⟨i, List.mem_range.2 (List.getElem?_eq_some_iff.1 hx).1, ?_⟩))
        simp [stMv, hx, ha]
theorem stp_mem {m : Int} {ths : List (List POp)} {mem mem' : Nat → Int} {ts ts' : List Pt} {v : Mv} (hk : okB m ths ts = true) (h : Stp m ths mem ts v mem' ts') : v ∈ movesP m ths ts := by
  rw [mem_moves]
  refine ⟨hk, ?_⟩
  cases h with
  | op k l t i o hl ht ho hc => exact ⟨k, l, t, hl, ht, .inl ⟨i, o, ho, hc, rfl⟩⟩
  | st k l t i x hl ht hx ha => exact ⟨k, l, t, hl, ht, .inr ⟨i, x, hx, ha, rfl⟩⟩
theorem mem_stp {m : Int} {ths : List (List POp)} {ts : List Pt} {v : Mv} (mem : Nat → Int) (h : v ∈ movesP m ths ts) : ∃ mem' ts', Stp m ths mem ts v mem' ts' := by
  rw [mem_moves] at h
  obtain ⟨_, k, l, t, hl, ht, ⟨i, o, ho, hc, rfl⟩ | ⟨i, x, hx, ha, rfl⟩⟩ := h
  · exact ⟨_, _, .op k l t i o hl ht ho hc⟩
  · exact ⟨_, _, .st k l t i x hl ht hx ha⟩
end Go.Proofs.Ytnomghcieomjmaa
