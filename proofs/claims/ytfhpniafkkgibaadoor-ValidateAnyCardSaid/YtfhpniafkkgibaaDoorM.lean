/- errors.Is at the validator's errors; errors.As at its other one. -/
import Derived.Test.YtfhpniafkkgibaaDoorAs
namespace Go.Proofs.YtfhpniafkkgibaaDoor
open Go.RowKit Go.Extern.Stop Go.Stop Go.Extern

def sState : ByteArray := ⟨#[116, 104, 101, 32, 116, 97, 115, 107, 32, 105, 115, 32, 110, 111, 116, 32, 97, 116, 32, 105, 116, 115, 32, 101, 110, 100]⟩
def sWrite : ByteArray := ⟨#[116, 104, 101, 32, 116, 97, 115, 107, 32, 119, 114, 111, 116, 101, 32, 119, 104, 97, 116, 32, 105, 115, 32, 110, 111, 116, 32, 116, 104, 101, 114, 101, 44, 32, 111, 114, 32, 109, 97, 100, 101, 32, 119, 104, 97, 116, 32, 105, 115, 32, 116, 104, 101, 114, 101]⟩

theorem run_eql_iface_str {P : Program} (w : World) {t tx : TypeId} {ms : Array (String × TypeId)} (a b : ByteArray)
    (ht : P.underlying t = some (.interface ms)) (hc : (P.info? tx).map (·.comparable) = some true) (hx : P.underlying tx = some .string) :
    (binOp .eql t (.iface tx (.string a)) (.iface tx (.string b))).run P w = .ok (.bool (a == b)) w := by
  cases hi : P.info? tx with
  | none => simp [hi] at hc
  | some i =>
    have hcc : i.comparable = true := by simpa [hi] using hc
    have h : ∀ d : Nat, (Op.equalIn (d + 2) t (.iface tx (.string a)) (.iface tx (.string b))).run P w = .ok (a == b) w := fun d => by
      simp [Op.equalIn, run_underlying ht, run_underlying hx, typeInfo, hi, hcc]
    simp only [binOp]
    simp [Op.equal, Op.maxDepth, h 9998]

theorem Rf.isTypeOf (v : Value) (w : World) : (ReflectliteType.typeOf #[.iface 62 v]).run Tryd.prog w = .ok (.iface 90 (.agg #[.pointer (some ⟨1, 62, none⟩)])) w := by kernel_rfl
theorem Rf.isComparable (w : World) : ((ReflectliteType.method fun t => do Rtype.noPackHeld "Comparable" t; (fun a => Value.bool a.comparable) <$> typeInfo t) #[.agg #[.pointer (some ⟨1, 62, none⟩)]]).run Tryd.prog w = .ok (.bool true) w := by kernel_rfl
theorem Rf.isMethodComparable (v : Value) (w : World) : (Go.method 238 90 v "Comparable").run Tryd.prog w = .ok (63, v) w := by kernel_rfl
theorem Rf.isComp : (Tryd.prog.info? 62).map (·.comparable) = some true := by kernel_rfl
theorem Rf.noIsO (v : Value) (xT : TypeId) (w : World) : (Instr.typeAssert (.iface 62 v) xT 103 true).run Tryd.prog w = .ok (.tuple #[.nilIface, .bool false]) w := run_typeAssert_lacksB Tryd.underlying103 (by kernel_rfl) (by kernel_rfl) v xT w
theorem Rf.noAsO (v : Value) (xT : TypeId) (w : World) : (Instr.typeAssert (.iface 62 v) xT 94 true).run Tryd.prog w = .ok (.tuple #[.nilIface, .bool false]) w := run_typeAssert_lacksB Tryd.underlying94 (by kernel_rfl) (by kernel_rfl) v xT w
theorem Rf.noUnwrapO (v : Value) (xT : TypeId) (w : World) : (Instr.typeAssert (.iface 62 v) xT 97 true).run Tryd.prog w = .ok (.tuple #[.nilIface, .bool false]) w := run_typeAssert_lacksB Tryd.underlying97 (by kernel_rfl) (by kernel_rfl) v xT w
theorem Rf.noUnwrapsO (v : Value) (xT : TypeId) (w : World) : (Instr.typeAssert (.iface 62 v) xT 99 true).run Tryd.prog w = .ok (.tuple #[.nilIface, .bool false]) w := run_typeAssert_lacksB Tryd.underlying99 (by kernel_rfl) (by kernel_rfl) v xT w
theorem Rf.noIsW (v : Value) (xT : TypeId) (w : World) : (Instr.typeAssert (.iface 52 v) xT 103 true).run Tryd.prog w = .ok (.tuple #[.nilIface, .bool false]) w := run_typeAssert_lacksB Tryd.underlying103 (by kernel_rfl) (by kernel_rfl) v xT w
theorem Rf.noUnwrapW (v : Value) (xT : TypeId) (w : World) : (Instr.typeAssert (.iface 52 v) xT 97 true).run Tryd.prog w = .ok (.tuple #[.nilIface, .bool false]) w := run_typeAssert_lacksB Tryd.underlying97 (by kernel_rfl) (by kernel_rfl) v xT w
theorem Rf.noUnwrapsW (v : Value) (xT : TypeId) (w : World) : (Instr.typeAssert (.iface 52 v) xT 99 true).run Tryd.prog w = .ok (.tuple #[.nilIface, .bool false]) w := run_typeAssert_lacksB Tryd.underlying99 (by kernel_rfl) (by kernel_rfl) v xT w
theorem Rf.assignableO (w : World) : (ReflectliteType.relation "AssignableTo" ReflectliteType.assignableTo #[.agg #[.pointer (some ⟨1, 62, none⟩)], .iface 90 (.agg #[.pointer (some ⟨1, 52, none⟩)])]).run Tryd.prog w = .ok (.bool false) w := by kernel_rfl

/-- errors.Is(errState, errState). -/
theorem is_same (w : World) :
    Calls Tryd.prog 17 #[.iface 62 (.string sState), .iface 62 (.string sState)] w fun e w' => e = .returned (.bool true) ∧ w' = w := by
  have h8 := @run_callFunc_extern Tryd.prog 29 _ ReflectliteType.typeOf Tryd.func29 (by kernel_rfl) (by kernel_rfl) (by kernel_rfl) (by kernel_rfl)
  have h32 := @run_callFunc_extern Tryd.prog 63 _ (ReflectliteType.method fun t => do Rtype.noPackHeld "Comparable" t; pure (.bool (← typeInfo t).comparable)) Tryd.func63 (by kernel_rfl) (by kernel_rfl) (by kernel_rfl) (by kernel_rfl)
  have tT := Rf.isTypeOf
  have cT := Rf.isComparable
  have mR := Rf.isMethodComparable
  have n1 := Rf.noIsO
  have n2 := Rf.noUnwrapO
  have n3 := Rf.noUnwrapsO
  have n4 := Rf.noIsW
  have n5 := Rf.noUnwrapW
  have n6 := Rf.noUnwrapsW
  have heq := run_eql_iface_str (P := Tryd.prog) w sState sState Tryd.underlying55 Rf.isComp Tryd.underlying62
  rw [show (sState == sState) = true from by decide] at heq
  go_enter Tryd.func17, Tryd.ntmps17
  go_wp2
  refine wp_loop_rounds 1 ?_
  rw [rounds_succ]
  go_wp2
  go_ret
  exact ⟨rfl, rfl⟩

/-- errors.Is(errWrite, errState). -/
theorem is_write (w : World) :
    Calls Tryd.prog 17 #[.iface 62 (.string sWrite), .iface 62 (.string sState)] w fun e w' => e = .returned (.bool false) ∧ w' = w := by
  have h8 := @run_callFunc_extern Tryd.prog 29 _ ReflectliteType.typeOf Tryd.func29 (by kernel_rfl) (by kernel_rfl) (by kernel_rfl) (by kernel_rfl)
  have h32 := @run_callFunc_extern Tryd.prog 63 _ (ReflectliteType.method fun t => do Rtype.noPackHeld "Comparable" t; pure (.bool (← typeInfo t).comparable)) Tryd.func63 (by kernel_rfl) (by kernel_rfl) (by kernel_rfl) (by kernel_rfl)
  have tT := Rf.isTypeOf
  have cT := Rf.isComparable
  have mR := Rf.isMethodComparable
  have n1 := Rf.noIsO
  have n2 := Rf.noUnwrapO
  have n3 := Rf.noUnwrapsO
  have n4 := Rf.noIsW
  have n5 := Rf.noUnwrapW
  have n6 := Rf.noUnwrapsW
  have heq := run_eql_iface_str (P := Tryd.prog) w sWrite sState Tryd.underlying55 Rf.isComp Tryd.underlying62
  rw [show (sWrite == sState) = false from by decide] at heq
  go_enter Tryd.func17, Tryd.ntmps17
  go_wp2
  refine wp_loop_rounds 1 ?_
  rw [rounds_succ]
  go_wp2
  go_ret
  exact ⟨rfl, rfl⟩

/-- errors.Is(a wrong cell, errState). -/
theorem is_wrong (e : Addr) (w : World) :
    Calls Tryd.prog 17 #[.iface 52 (.pointer (some e)), .iface 62 (.string sState)] w fun e w' => e = .returned (.bool false) ∧ w' = w := by
  have h8 := @run_callFunc_extern Tryd.prog 29 _ ReflectliteType.typeOf Tryd.func29 (by kernel_rfl) (by kernel_rfl) (by kernel_rfl) (by kernel_rfl)
  have h32 := @run_callFunc_extern Tryd.prog 63 _ (ReflectliteType.method fun t => do Rtype.noPackHeld "Comparable" t; pure (.bool (← typeInfo t).comparable)) Tryd.func63 (by kernel_rfl) (by kernel_rfl) (by kernel_rfl) (by kernel_rfl)
  have tT := Rf.isTypeOf
  have cT := Rf.isComparable
  have mR := Rf.isMethodComparable
  have n1 := Rf.noIsO
  have n2 := Rf.noUnwrapO
  have n3 := Rf.noUnwrapsO
  have n4 := Rf.noIsW
  have n5 := Rf.noUnwrapW
  have n6 := Rf.noUnwrapsW
  have heq := run_eql_iface_types (P := Tryd.prog) 52 62 (.pointer (some e)) (.string sState) Tryd.underlying55 (by decide) w
  go_enter Tryd.func17, Tryd.ntmps17
  go_wp2
  refine wp_loop_rounds 1 ?_
  rw [rounds_succ]
  go_wp2
  go_ret
  exact ⟨rfl, rfl⟩

set_option maxRecDepth 100000 in
set_option maxHeartbeats 8000000 in
/-- errors.As(errWrite, target): no hit. -/
theorem as_other (s : ByteArray) (t : Addr) (w : World) (hg : w.cell? ⟨0, 0, none⟩ = some (.iface 90 (.agg #[.pointer (some ⟨1, 55, none⟩)]))) :
    Calls Tryd.prog 13 #[.iface 62 (.string s), .iface 57 (.pointer (some t))] w fun ev w' => ev = .returned (.bool false) ∧ Below w.heap.size w w' := by
  have h6 := @run_callFunc_extern Tryd.prog 21 _ (fun args => ReflectliteValue.unpack (args.getD 0 (.tuple #[]))) Tryd.func21 (by kernel_rfl) (by kernel_rfl) (by kernel_rfl) (by kernel_rfl)
  have h7 := @run_callFunc_extern Tryd.prog 22 _ (ReflectliteValue.methodAny (ReflectliteValue.valueError "reflectlite.Value.Type" 0) (fun t _ _ _ => ReflectliteType.toType t)) Tryd.func22 (by kernel_rfl) (by kernel_rfl) (by kernel_rfl) (by kernel_rfl)
  have h8 := @run_callFunc_extern Tryd.prog 23 _ (ReflectliteValue.method (ReflectliteValue.valueError "reflectlite.Value.IsNil" 0) ReflectliteValue.isNil) Tryd.func23 (by kernel_rfl) (by kernel_rfl) (by kernel_rfl) (by kernel_rfl)
  have h27 := @run_callFunc_extern Tryd.prog 53 _ (ReflectliteType.abiMethod fun t => do pure (.int .u8 (← Rtype.kind t))) Tryd.func53 (by kernel_rfl) (by kernel_rfl) (by kernel_rfl) (by kernel_rfl)
  have h37 := @run_callFunc_extern Tryd.prog 64 _ (ReflectliteType.method ReflectliteType.elem) Tryd.func64 (by kernel_rfl) (by kernel_rfl) (by kernel_rfl) (by kernel_rfl)
  have h38 := @run_callFunc_extern Tryd.prog 65 _ (ReflectliteType.relation "Implements" ReflectliteType.implements_) Tryd.func65 (by kernel_rfl) (by kernel_rfl) (by kernel_rfl) (by kernel_rfl)
  have h10 := @run_callFunc_extern Tryd.prog 29 _ ReflectliteType.typeOf Tryd.func29 (by kernel_rfl) (by kernel_rfl) (by kernel_rfl) (by kernel_rfl)
  have h35 := @run_callFunc_extern Tryd.prog 62 _ (ReflectliteType.relation "AssignableTo" ReflectliteType.assignableTo) Tryd.func62 (by kernel_rfl) (by kernel_rfl) (by kernel_rfl) (by kernel_rfl)
  have tO := Rf.isTypeOf
  have mA := Rf.methodAssignableTo
  have aO := Rf.assignableO
  have f6 := Rf.valueOf27
  have f7 := Rf.type27
  have mK := Rf.methodKind
  have mE := Rf.methodElem
  have mI := Rf.methodImplements
  have k27 := Rf.kind27
  have k25 := Rf.kind25
  have e27 := Rf.elem27
  have i25 := Rf.implements25
  have n1 := Rf.noAsO
  have n2 := Rf.noUnwrapO
  have n3 := Rf.noUnwrapsO
  have n8 := Rf.isNil27 ⟨w.heap.size, 0, none⟩ t ((w.alloc (.cells #[.pointer (some t)] 57)).alloc (.cells #[.pointer (some ⟨1, 57, none⟩), .pointer (some ⟨w.heap.size, 0, none⟩), .int .u64 150] 74)) (by simp)
  have hlt : 0 < w.heap.size := by
    rcases Nat.eq_zero_or_pos w.heap.size with h0 | h
    · simp [World.cell?, h0] at hg
    · exact h
  have hg2 : ((w.alloc (.cells #[.pointer (some t)] 57)).alloc (.cells #[.pointer (some ⟨1, 57, none⟩), .pointer (some ⟨w.heap.size, 0, none⟩), .int .u64 150] 74)).cell? ⟨0, 0, none⟩ = some (.iface 90 (.agg #[.pointer (some ⟨1, 55, none⟩)])) := by
    rw [World.cell?_alloc_lt _ _ ⟨0, 0, none⟩ (by simp), World.cell?_alloc_lt _ _ ⟨0, 0, none⟩ hlt]; exact hg
  go_enter Tryd.func13, Tryd.ntmps13
  go_wp2
  refine wp_loop_rounds 1 ?_
  rw [rounds_succ]
  go_wp2
  go_ret
  exact ⟨rfl, (by repeat (first | (with_reducible exact (Below.refl _ _)) | (with_reducible refine Below.drew ?_) | (with_reducible refine below_drewN ?_ _) | (with_reducible refine Below.setCell ?_ ?_ _; rotate_left; (first | omega | (simp <;> omega))) | (with_reducible refine Below.alloc ?_ ?_ _; rotate_left; (first | omega | (simp <;> omega)))))⟩
end Go.Proofs.YtfhpniafkkgibaaDoor
