/- Copies of cells and of actions that the laws keep. -/
import Derived.Test.YtfhpniafkkgibaaDoorF
namespace Go.Proofs.YtfhpniafkkgibaaDoor
open Go.RowKit

/-- A cell with its value, a reduction, an action. -/
structure Cl where
  id : Int
  field : Int
  ref : Bool
  n : Int
def Cl.cells (t : Cl) : List Value := [.int .i64 t.id, .int .i64 t.field, .bool t.ref, .int .i64 t.n]
theorem Cl.size (t : Cl) : t.cells.length = 4 := rfl
theorem Cl_one (ts : List Cl) : ∀ u ∈ ts.flatMap Cl.cells, u.oneCell' = true := by
  intro u hu
  obtain ⟨t, _, ht⟩ := List.mem_flatMap.1 hu
  simp [Cl.cells] at ht
  rcases ht with rfl | rfl | rfl | rfl <;> rfl
theorem infoCl : (Tryd.prog.info? 42).map (fun i => (i.zero, i.size, i.bytes)) = some (some (.agg #[.int .i64 0, .int .i64 0, .bool false, .int .i64 0]), 4, 32) := by kernel_rfl
structure Dl where
  id : Int
  field : Int
  op : Int
  ref : Bool
  n : Int
def Dl.cells (t : Dl) : List Value := [.int .i64 t.id, .int .i64 t.field, .int .i64 t.op, .bool t.ref, .int .i64 t.n]
theorem Dl.size (t : Dl) : t.cells.length = 5 := rfl
theorem Dl_one (ts : List Dl) : ∀ u ∈ ts.flatMap Dl.cells, u.oneCell' = true := by
  intro u hu
  obtain ⟨t, _, ht⟩ := List.mem_flatMap.1 hu
  simp [Dl.cells] at ht
  rcases ht with rfl | rfl | rfl | rfl | rfl <;> rfl
theorem infoDl : (Tryd.prog.info? 64).map (fun i => (i.zero, i.size, i.bytes)) = some (some (.agg #[.int .i64 0, .int .i64 0, .int .i64 0, .bool false, .int .i64 0]), 5, 40) := by kernel_rfl
structure Ac where
  ask : Bool
  value : Int
  answer : Int
def Ac.cells (t : Ac) : List Value := [.bool t.ask, .int .i64 t.value, .int .i64 t.answer]
theorem Ac.size (t : Ac) : t.cells.length = 3 := rfl
theorem Ac_one (ts : List Ac) : ∀ u ∈ ts.flatMap Ac.cells, u.oneCell' = true := by
  intro u hu
  obtain ⟨t, _, ht⟩ := List.mem_flatMap.1 hu
  simp [Ac.cells] at ht
  rcases ht with rfl | rfl | rfl <;> rfl
theorem infoAc : (Tryd.prog.info? 123).map (fun i => (i.zero, i.size, i.bytes)) = some (some (.agg #[.bool false, .int .i64 0, .int .i64 0]), 3, 24) := by kernel_rfl
set_option maxHeartbeats 4000000 in
theorem keepCl_any (A : Option Addr) (n c : Nat) (s : List Cl) (w : World) (hx : Sl w w.heap.size 4 Cl.cells A n s) (hn : n ≤ 4398046510976) :
    Calls Tryd.prog 10 #[.slice A n c] w fun e w' => ∃ (A' : Option Addr) (c' : Nat), e = .returned (.slice A' n c') ∧ Hid (w'.ownsRow w.heap.size 42 4 (.slice A' n c') n (s.flatMap Cl.cells)) ∧ Below w.heap.size w w' := by
  obtain ⟨i0, hi, hz0, hz1, hz2⟩ := info_parts infoCl
  have HS := Lib.hid (hx.src Cl.size)
  have HL := Lib.hid hx.len
  clear hx
  go_enter Tryd.func10, Tryd.ntmps10
  go_wp2_with (at_builtin; refine wpList_append_any rfl _ _ 30 rfl w.heap.size 42 i0 _ 4 32 Tryd.underlying30 hi hz0 hz1 hz2 rfl (by decide) (.slice none 0 0) 0 [] (by simp [Act.eval]) (World.ownsRow_nil _ _ _ _) A n c (s.flatMap Cl.cells) (by simp [Act.eval]) HS.out.1 (by rw [flat_len Cl.size, HL.out]) HS.out.2 (Cl_one s) (by unfold maxLen; omega) (by omega) (Nat.le_refl _) ?_; intro A3 c3 w3 hown3 hgr3 hA3; have H3 := Lib.hid hown3; have hb3 : Below w.heap.size w w3 := (Below.refl _ _).grown hgr3 (Nat.le_refl _) (fun k hk => by cases hk); clear hown3 hgr3 hA3)
  go_ret
  exact ⟨A3, c3, by simp, Lib.hid (by simpa using own_eq (Nat.zero_add n) H3.out), hb3⟩
set_option maxHeartbeats 4000000 in
theorem keepAc_any (A : Option Addr) (n c : Nat) (s : List Ac) (w : World) (hx : Sl w w.heap.size 3 Ac.cells A n s) (hn : n ≤ 5864062014634) :
    Calls Tryd.prog 12 #[.slice A n c] w fun e w' => ∃ (A' : Option Addr) (c' : Nat), e = .returned (.slice A' n c') ∧ Hid (w'.ownsRow w.heap.size 123 3 (.slice A' n c') n (s.flatMap Ac.cells)) ∧ Below w.heap.size w w' := by
  obtain ⟨i0, hi, hz0, hz1, hz2⟩ := info_parts infoAc
  have HS := Lib.hid (hx.src Ac.size)
  have HL := Lib.hid hx.len
  clear hx
  go_enter Tryd.func12, Tryd.ntmps12
  go_wp2_with (at_builtin; refine wpList_append_any rfl _ _ 32 rfl w.heap.size 123 i0 _ 3 24 Tryd.underlying32 hi hz0 hz1 hz2 rfl (by decide) (.slice none 0 0) 0 [] (by simp [Act.eval]) (World.ownsRow_nil _ _ _ _) A n c (s.flatMap Ac.cells) (by simp [Act.eval]) HS.out.1 (by rw [flat_len Ac.size, HL.out]) HS.out.2 (Ac_one s) (by unfold maxLen; omega) (by omega) (Nat.le_refl _) ?_; intro A3 c3 w3 hown3 hgr3 hA3; have H3 := Lib.hid hown3; have hb3 : Below w.heap.size w w3 := (Below.refl _ _).grown hgr3 (Nat.le_refl _) (fun k hk => by cases hk); clear hown3 hgr3 hA3)
  go_ret
  exact ⟨A3, c3, by simp, Lib.hid (by simpa using own_eq (Nat.zero_add n) H3.out), hb3⟩
end Go.Proofs.YtfhpniafkkgibaaDoor
