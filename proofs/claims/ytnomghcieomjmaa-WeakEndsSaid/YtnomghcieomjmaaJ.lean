/- slices.Backward over stores that wait. -/
import Derived.RangeFuncNested
import Derived.RangeFuncBound
import Derived.RangeFuncCalls
import Derived.RangeFuncLeaves
import Derived.RangeFuncBox
import Derived.Shelf.Abstract
import Derived.WalkKit
import Derived.OwnWalkIn
import Derived.TacticsInMore
import Derived.LoopNIn
import Derived.LoopIn
import Derived.Test.YtnomghcieomjmaaI
namespace Go.Proofs.Ytnomghcieomjmaa
open Go.RowKit Go.Shelf
attribute [local go_sem] Oper.semAt_some

/-- What has come after k rounds. -/
def bseq (q : List Wt) (k : Nat) : List (Nat × Wt) := (List.range k).map fun j => (q.length - 1 - j, (q[q.length - 1 - j]?).getD ⟨0, 0⟩)
theorem bseq_succ (q : List Wt) (k : Nat) : bseq q (k + 1) = bseq q k ++ [(q.length - 1 - k, (q[q.length - 1 - k]?).getD ⟨0, 0⟩)] := by simp [bseq, List.range_succ]
theorem bseq_len (q : List Wt) (k : Nat) : (bseq q k).length = k := by simp [bseq]
def bwEnc (x : Nat × Wt) : Array Value := #[.int .i64 (x.1 : Int), .agg #[.int .i64 x.2.word, .int .i64 x.2.n]]

set_option maxRecDepth 100000 in
set_option maxHeartbeats 2000000 in
theorem back1_in (F : Fence) (n : Nat) (hf : F.fn 63) (hro : F.round = none) (hn : 1 ≤ n) (l Bs n₀ : Nat) (A : Option Addr) (len cap : Nat) (q : List Wt) (hBn : Bs < n₀) (J Jx : List (Nat × Wt) → World → Prop)
    (hY : ∀ pre x W, J pre W → pre.length < len → YieldAt F (n - 1) Try.prog l (bwEnc x) W fun e W' =>
      (e = .returned (.bool true) ∧ J (pre ++ [x]) W' ∧ Below n₀ W W') ∨ (e = .returned (.bool false) ∧ Jx (pre ++ [x]) W'))
    (W : World) (hBs : W.cell? ⟨Bs, 0, none⟩ = some (.slice A len cap)) (hq : Sl W n₀ 2 Wt.cells A len q) (hcap : len ≤ 1000000) (h0 : J [] W) :
    CallsIn F n Try.prog 63 #[.func (.yield l) #[] #[], .pointer (some ⟨Bs, 0, none⟩)] W fun e W' => (∃ v, e = .returned v) ∧
      ((∃ ys, ys = bseq q len ∧ J ys W') ∨ (∃ pre, (∃ k, k ≤ len ∧ pre = bseq q k) ∧ Jx pre W')) := by
  have HQ := Lib.hid hq
  have HL := Lib.hid hq.len
  clear hq
  refine callsIn_of_wp Try.func63 rfl hf ?_ hro
  simp only [Try.ntmps63, List.size_toArray, List.length_cons, List.length_nil, Nat.reduceAdd, Nat.reduceSub, Array.replicate_succ, Array.replicate_zero, List.push_toArray, List.append_toArray, List.nil_append, List.cons_append]
  gi_wp2
  gi_loopw [3] (fun i wr => ∃ m : Nat, m ≤ len ∧ i = .int .i64 ((m : Int) - 1) ∧ J (bseq q (len - m)) wr ∧ Below n₀ W wr)
    (fun i _ => (intOf i + 1).toNat)
  case atStart => exact ⟨len, Nat.le_refl _, rfl, by rw [Nat.sub_self]; exact h0, Below.refl _ _⟩
  case round =>
    obtain ⟨m, hm, rfl, hJs, hnx⟩ := hrel
    cases m with
    | zero =>
      have hz : ((0 : Nat) : Int) - 1 = -1 := by omega
      rw [hz]
      gi_wp2
      go_end0
      exact ⟨⟨_, rfl⟩, .inl ⟨_, rfl, by simpa using hJs⟩⟩
    | succ m =>
      have hz : ((m + 1 : Nat) : Int) - 1 = (m : Int) := by omega
      rw [hz]
      have hlt : m < len := by omega
      obtain ⟨ab, ao, rfl, hlo, hat⟩ := HQ.out.at_ (by omega)
      obtain ⟨x, hx⟩ : ∃ x, q[m]? = some x := ⟨_, List.getElem?_eq_getElem (by rw [HL.out]; exact hlt)⟩
      have c0 : wr.cell? ⟨ab, ao + m * 2, none⟩ = some (.int .i64 x.word) := (hnx.cell (p := ⟨ab, _, none⟩) hlo).trans (hat m x hx 0 _ rfl)
      have c1 : wr.cell? ⟨ab, ao + m * 2 + 1, none⟩ = some (.int .i64 x.n) := (hnx.cell (p := ⟨ab, _, none⟩) hlo).trans (hat m x hx 1 _ rfl)
      have cB : wr.cell? ⟨Bs, 0, none⟩ = some (.slice (some ⟨ab, ao, none⟩) len cap) := (hnx.cell (p := ⟨Bs, 0, none⟩) hBn).trans hBs
      obtain ⟨fn, tmps, assign, body, hy, hR⟩ := hY _ (m, x) wr hJs (by rw [bseq_len]; omega)
      dsimp only [bwEnc] at hy
      have hseq := Lib.hid (show bseq q (len - m) = bseq q (len - (m + 1)) ++ [(m, x)] from by
        have h1 : len - m = (len - (m + 1)) + 1 := by omega
        rw [h1, bseq_succ, HL.out]
        have h2 : len - 1 - (len - (m + 1)) = m := by omega
        rw [h2, hx]; rfl)
      have hmI : (m : Int) < (len : Int) := by omega
      have HX := Lib.hid hx
      clear hat hx
      gi_wp2
      refine hR.mono ?_
      rintro e W3 (⟨rfl, hJ3, hk3⟩ | ⟨rfl, hJx3⟩)
      · gi_wp2
        go_roundw
        case rel => exact ⟨m, by omega, rfl, by rw [hseq.out]; exact hJ3, hnx.trans hk3⟩
        case measure => simp [intOf]
      · gi_wp2
        refine bodyPost_ret (results_none rfl _ _ _) rfl ?_
        exact ⟨⟨_, rfl⟩, .inr ⟨_, ⟨len - m, by omega, hseq.out.symm⟩, hJx3⟩⟩

set_option maxHeartbeats 1000000 in
theorem back_in (F : Fence) (n : Nat) (hf : F.fn 56) (hro : F.round = none) (A : Option Addr) (len cap : Nat) (w : World) :
    CallsIn F n Try.prog 56 #[.slice A len cap] w fun e w' => e = .returned (.func (.func 63) #[] #[.pointer (some ⟨w.heap.size, 0, none⟩)]) ∧ w' = w.alloc (.cells #[.slice A len cap] 45) := by
  refine callsIn_of_wp Try.func56 rfl hf ?_ hro
  simp only [Try.ntmps56, List.size_toArray, List.length_cons, List.length_nil, Nat.reduceAdd, Nat.reduceSub, Array.replicate_succ, Array.replicate_zero, List.push_toArray, List.append_toArray, List.nil_append, List.cons_append]
  gi_wp2
  go_ret
  exact ⟨rfl, rfl⟩

theorem back_stops (F : Fence) (n : Nat) (hf : F.fn 63) (hro : F.round = none) (hn : 1 ≤ n) (Bs n₀ : Nat) (A : Option Addr) (len cap : Nat) (q : List Wt) (w : World) (hBs : Bs < n₀) (hn₀ : n₀ ≤ w.heap.size)
    (hc : w.cell? ⟨Bs, 0, none⟩ = some (.slice A len cap)) (hq : Sl w n₀ 2 Wt.cells A len q) (hcap : len ≤ 1000000) :
    SeqStopsK F n Try.prog 63 #[.pointer (some ⟨Bs, 0, none⟩)] bwEnc (Below n₀) (fun ys => ys = bseq q len) (fun pre => ∃ k, k ≤ len ∧ pre = bseq q k) len w := fun l J Jx W hW _ _ hY h0 =>
  back1_in F n hf hro hn l Bs n₀ A len cap q hBs J Jx hY W ((hW.cell (p := ⟨Bs, 0, none⟩) (by show Bs < _; omega)).trans hc) (hq.below (hW.mono hn₀)) hcap h0
end Go.Proofs.Ytnomghcieomjmaa
