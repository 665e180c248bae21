/- A slice of tasks gone through from its end: the iterator. -/
import Derived.Test.YteeglmlmconbmaaC
import Derived.RangeFuncNested
import Derived.RangeFuncBound
import Derived.RangeFuncLeaves
import Derived.Deep.MidRow
import Derived.Deep.WholeRow
import Derived.OwnWalkIn
import Derived.TacticsInMore
import Derived.LoopNIn
import Derived.LoopIn
namespace Go.Proofs.Yteeglmlmconbmaa
open Go.RowKit
attribute [local go_sem] Oper.semAt_some

/-- A task, as far as it is looked at. -/
structure Tk where
  start : Int
  status : Int
  next : Int
  cells : List Value
  size : cells.length = 48
  c0 : cells[0]? = some (.int .i64 start)
  c42 : cells[42]? = some (.int .i64 status)
  c43 : cells[43]? = some (.int .i64 next)
  one : cells.all (·.oneCell') = true

def TkAt (w : World) (b o : Nat) (t : Tk) : Prop := ∀ (j : Nat) (v : Value), t.cells[j]? = some v → w.cell? ⟨b, o + j, none⟩ = some v
theorem tk_agg : (Try.prog.info? 44).map (·.size) = some 48 := by kernel_rfl
def zeroCells : List Value := [.int .i64 0, .int .i64 0, .bool false, .int .i64 0] ++ (List.replicate 16 [Value.bool false, .int .i64 0]).flatten ++ List.replicate 6 (.slice none 0 0) ++ [.int .i64 0, .int .i64 0, .bool false, .bool false, .int .i64 0, .int .i64 0]
theorem wpListIn_load_tk {F : Fence} {n : Nat} {ops : Array Oper} {rest : List Oper} {op : Oper} {a : Act} {w : World} {Q : Exit → Act → World → Prop} (hgd : op.guard = none) (x : Operand) (ho : op.op = .load 44 x)
    {b o : Nat} {t : Tk} (hx : a.eval x = .pointer (some ⟨b, o, none⟩)) (hc : TkAt w b o t) (h : wpListIn F n Try.prog ops Q rest (a.put op.dst (.agg t.cells.toArray)) w) : wpListIn F n Try.prog ops Q (op :: rest) a w := by
  refine wpListIn_plain hgd fun K hK => ?_
  have h1 := run_loadAt_mid (P := Try.prog) w b o _ t.cells _ (fun j v hv => hc j v hv) Try.underlying44 rfl (by rw [t.size]; exact tk_agg)
  unfold Oper.wpIn
  refine ⟨?_, ?_⟩
  · simp [Oper.about, ho]
  · rw [Oper.semAt_plain F _ _ (by rw [ho]; intro c hc'; cases hc')]
    unfold execOp
    simp only [ho, hx, Sem.run_bind, h1, Result.andThen_ok, Sem.run_pure]
    exact hK _ _ h
theorem wpListIn_store_tk {F : Fence} {n : Nat} {ops : Array Oper} {rest : List Oper} {op : Oper} {a : Act} {w : World} {Q : Exit → Act → World → Prop} (hgd : op.guard = none) (x y : Operand) (ho : op.op = .store 44 x y)
    {c : Array Value} (t : Tk) (hc : c.size = 48) (hx : a.eval x = .pointer (some ⟨w.heap.size, 0, none⟩)) (hy : a.eval y = .agg t.cells.toArray)
    (h : wpListIn F n Try.prog ops Q rest (a.put op.dst undef) (w.alloc (.cells t.cells.toArray 44))) : wpListIn F n Try.prog ops Q (op :: rest) a (w.alloc (.cells c 44)) := by
  refine wpListIn_plain hgd fun K hK => ?_
  have hs : t.cells.toArray.size = 48 := by simp [t.size]
  have h1 := run_storeAt_new (P := Try.prog) w _ c t.cells.toArray (by rw [hs]; exact tk_agg) (by rw [hs]; exact hc) (by simpa using t.one)
  unfold Oper.wpIn
  refine ⟨?_, ?_⟩
  · simp [Oper.about, ho]
  · rw [Oper.semAt_plain F _ _ (by rw [ho]; intro c hc'; cases hc')]
    unfold execOp
    simp only [ho, hx, hy, Sem.run_bind, h1, Result.andThen_ok, Sem.run_pure]
    exact hK _ _ h

/-- The tasks below place m, from the end, with their places. -/
def rvTo (l : List Tk) : Nat → List (Nat × Tk)
  | 0 => []
  | m + 1 => match l[m]? with
    | some t => (m, t) :: rvTo l m
    | none => rvTo l m
def tkv (x : Nat × Tk) : Array Value := #[.int .i64 x.1, .agg x.2.cells.toArray]

set_option maxRecDepth 100000 in
set_option maxHeartbeats 2000000 in
theorem back_in (m l n₀ Bn : Nat) (hm : 1 ≤ m) (A : Option Addr) (k c : Nat) (ts : List Tk) (J Jx : List (Nat × Tk) → World → Prop) (hk : k ≤ 1000000) (hB : Bn < n₀)
    (hY : ∀ pre y W1, J pre W1 → pre.length < k → YieldAt Fence.wide (m - 1) Try.prog l (tkv y) W1 fun e W' =>
      (e = .returned (.bool true) ∧ J (pre ++ [y]) W' ∧ Below n₀ W1 W') ∨ (e = .returned (.bool false) ∧ Jx (pre ++ [y]) W'))
    (W : World) (hc : W.cell? ⟨Bn, 0, none⟩ = some (.slice A k c)) (hs : Sl W n₀ 48 Tk.cells A k ts) (h0 : J [] W) :
    CallsIn Fence.wide m Try.prog 21 #[.func (.yield l) #[] #[], .pointer (some ⟨Bn, 0, none⟩)] W fun e W' => (∃ v, e = .returned v) ∧
      ((∃ ys, ys = rvTo ts k ∧ J ys W') ∨ (∃ pre, pre <+: rvTo ts k ∧ Jx pre W')) := by
  have HY := Lib.hid hY
  have HC := Lib.hid hc
  have HL := Lib.hid hs.len
  have hcl := hc
  clear hY
  have hc0 := HC.out
  refine callsIn_of_wp Try.func21 rfl trivial ?_ rfl
  simp only [Try.ntmps21, List.size_toArray, List.length_cons, List.length_nil, Nat.reduceAdd, Nat.reduceSub, Array.replicate_succ, Array.replicate_zero, List.push_toArray, List.append_toArray, List.nil_append, List.cons_append]
  gi_wp2
  gi_loopw [3] (fun i wr => ∃ (pre : List (Nat × Tk)) (j : Nat), i = .int .i64 ((j : Int) - 1) ∧ j ≤ k ∧ pre.length + j = k ∧ Hid (rvTo ts k = pre ++ rvTo ts j) ∧ J pre wr ∧ Below n₀ W wr) (fun i _ => (intOf i + 1).toNat)
  case atStart => exact ⟨[], k, by first | rfl | (congr 1; omega), Nat.le_refl _, by simp, Lib.hid (by simp), h0, Below.refl _ _⟩
  case round =>
    obtain ⟨pre, j, rfl, hj, hpl, hrv, hJs, hb⟩ := hrel
    have hcr := (belc hb hB).trans HC.out
    cases j with
    | zero =>
      gi_wp2
      go_end0
      exact ⟨⟨_, rfl⟩, .inl ⟨pre, by rw [hrv.out]; simp [rvTo], hJs⟩⟩
    | succ j =>
      have hsr := hs.below hb
      obtain ⟨ab, ao, rfl, hlo, hat⟩ := hsr.at_ (by omega)
      obtain ⟨t, ht⟩ : ∃ t, ts[j]? = some t := ⟨_, List.getElem?_eq_getElem (by rw [HL.out]; omega)⟩
      have HTK := Lib.hid (show TkAt wr ab (ao + j * 48) t from fun i v hv => by rw [Nat.add_assoc]; exact hat j t ht i v hv)
      have HRV := Lib.hid (show rvTo ts k = (pre ++ [(j, t)]) ++ rvTo ts j from by rw [hrv.out]; simp [rvTo, ht])
      obtain ⟨fn, tmps, assign, body, hy, hR⟩ := HY.out pre (j, t) wr hJs (by omega)
      unfold tkv at hy
      have e1 : ((j + 1 : Nat) : Int) - 1 = (j : Int) := by omega
      rw [e1]
      have hjk : (j : Int) < (k : Int) := by omega
      clear hat ht hsr
      gi_wp2_with (with_reducible refine wpListIn_load_tk rfl (.tmp 15) rfl (by simp [Act.eval, Act.put]) HTK.out ?_)
      refine hR.mono ?_
      rintro e W3 (⟨rfl, hJ3, hk3⟩ | ⟨rfl, hJx3⟩)
      · have hb3 := hb.trans hk3
        have HB3 := Lib.hid hb3
        have HJ3 := Lib.hid hJ3
        clear hy hR hJs hb hJ3
        gi_wp2
        go_roundw
        case rel => exact ⟨pre ++ [(j, t)], j, by first | rfl | go_num, by omega, by simp; omega, HRV, HJ3.out, HB3.out⟩
        case measure => simp [intOf]
      · clear hy hR hJs hb
        gi_wp2
        refine bodyPost_ret (results_none rfl _ _ _) rfl ?_
        exact ⟨⟨_, rfl⟩, .inr ⟨pre ++ [(j, t)], ⟨rvTo ts j, HRV.out.symm⟩, hJx3⟩⟩
theorem back_stops (m n₀ Bn : Nat) (hm : 1 ≤ m) (A : Option Addr) (k c : Nat) (ts : List Tk) (hk : k ≤ 1000000) (hB : Bn < n₀) (w : World) (hn : n₀ ≤ w.heap.size) (hc : w.cell? ⟨Bn, 0, none⟩ = some (.slice A k c)) (hs : Sl w n₀ 48 Tk.cells A k ts) :
    SeqStopsK Fence.wide m Try.prog 21 #[.pointer (some ⟨Bn, 0, none⟩)] tkv (Below n₀) (fun ys => ys = rvTo ts k) (fun pre => pre <+: rvTo ts k) k w := fun l J Jx W hW _ _ hY h0 =>
  back_in m l n₀ Bn hm A k c ts J Jx hk hB hY W ((belc hW (by omega)).trans hc) (hs.below (hW.mono hn)) h0
end Go.Proofs.Yteeglmlmconbmaa
