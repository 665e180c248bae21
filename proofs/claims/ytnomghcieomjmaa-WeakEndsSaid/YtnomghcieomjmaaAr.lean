/- Arrays are equal: memories, registers, marks of what is done. -/
import Derived.Test.YtnomghcieomjmaaSt
import Derived.Shelf.SlicesE.Kit
import Derived.Laws.StructEq
import Derived.ChangeKeysEq
namespace Go.Proofs.Ytnomghcieomjmaa
open Go.RowKit

def memVal (m : Nat → Int) : Value := .agg #[.int .i64 (m 0), .int .i64 (m 1), .int .i64 (m 2), .int .i64 (m 3)]
def regVal (m : Nat → Int) : Value := .agg #[.int .i64 (m 0), .int .i64 (m 1), .int .i64 (m 2), .int .i64 (m 3), .int .i64 (m 4), .int .i64 (m 5), .int .i64 (m 6), .int .i64 (m 7)]
def doneVal (m : Nat → Bool) : Value := .agg #[.bool (m 0), .bool (m 1), .bool (m 2), .bool (m 3), .bool (m 4), .bool (m 5), .bool (m 6), .bool (m 7)]
def same4 (x y : Nat → Int) : Bool := x 0 == y 0 && (x 1 == y 1 && (x 2 == y 2 && x 3 == y 3))
def same8 {α : Type} [BEq α] (x y : Nat → α) : Bool := x 0 == y 0 && (x 1 == y 1 && (x 2 == y 2 && (x 3 == y 3 && (x 4 == y 4 && (x 5 == y 5 && (x 6 == y 6 && x 7 == y 7))))))
theorem same4_refl (x : Nat → Int) : same4 x x = true := by simp [same4]
theorem same8_refl {α : Type} [BEq α] [LawfulBEq α] (x : Nat → α) : same8 x x = true := by simp [same8]
theorem same4_iff {x y : Nat → Int} : same4 x y = true ↔ ∀ i, i < 4 → x i = y i := by
  simp only [same4, Bool.and_eq_true, beq_iff_eq]
  refine ⟨fun ⟨h0, h1, h2, h3⟩ i hi => ?_, fun h => ⟨h 0 (by decide), h 1 (by decide), h 2 (by decide), h 3 (by decide)⟩⟩
  match i, hi with
  | 0, _ => exact h0
  | 1, _ => exact h1
  | 2, _ => exact h2
  | 3, _ => exact h3
theorem same8_iff {α : Type} [BEq α] [LawfulBEq α] {x y : Nat → α} : same8 x y = true ↔ ∀ i, i < 8 → x i = y i := by
  simp only [same8, Bool.and_eq_true, beq_iff_eq]
  refine ⟨fun ⟨h0, h1, h2, h3, h4, h5, h6, h7⟩ i hi => ?_, fun h => ⟨h 0 (by decide), h 1 (by decide), h 2 (by decide), h 3 (by decide), h 4 (by decide), h 5 (by decide), h 6 (by decide), h 7 (by decide)⟩⟩
  match i, hi with
  | 0, _ => exact h0
  | 1, _ => exact h1
  | 2, _ => exact h2
  | 3, _ => exact h3
  | 4, _ => exact h4
  | 5, _ => exact h5
  | 6, _ => exact h6
  | 7, _ => exact h7
theorem eqMem : EqlAt Try.prog 28 memVal same4 := by
  refine ⟨fun x y w => ?_, GuardAt.agg _ (by kernel_rfl)⟩
  unfold memVal same4
  rw [run_eql_struct, show (10000 : Nat) = 9999 + 1 from rfl, run_equalIn_array w 9999 _ _ Try.underlying28 (i := (Try.prog.info? 3).get!) (by kernel_rfl)]
  rw [show Try.prog.cellsOf 3 = 1 from by kernel_rfl, show List.range 4 = [0, 1, 2, 3] from rfl]
  simp only [Op.eqItems]
  go_simp
  cases h1 : x 0 == y 0 <;> cases h2 : x 1 == y 1 <;> cases h3 : x 2 == y 2 <;> cases h4 : x 3 == y 3 <;> simp_all
theorem eqRegs : EqlAt Try.prog 44 regVal same8 := by
  refine ⟨fun x y w => ?_, GuardAt.agg _ (by kernel_rfl)⟩
  unfold regVal same8
  rw [run_eql_struct, show (10000 : Nat) = 9999 + 1 from rfl, run_equalIn_array w 9999 _ _ Try.underlying44 (i := (Try.prog.info? 3).get!) (by kernel_rfl)]
  rw [show Try.prog.cellsOf 3 = 1 from by kernel_rfl, show List.range 8 = [0, 1, 2, 3, 4, 5, 6, 7] from rfl]
  simp only [Op.eqItems]
  go_simp
  cases h0 : x 0 == y 0
  · simp_all
  · cases h1 : x 1 == y 1
    · simp_all
    · cases h2 : x 2 == y 2
      · simp_all
      · cases h3 : x 3 == y 3
        · simp_all
        · cases h4 : x 4 == y 4
          · simp_all
          · cases h5 : x 5 == y 5
            · simp_all
            · cases h6 : x 6 == y 6
              · simp_all
              · cases h7 : x 7 == y 7
                · simp_all
                · simp_all
theorem eqDone : EqlAt Try.prog 43 doneVal same8 := by
  refine ⟨fun x y w => ?_, GuardAt.agg _ (by kernel_rfl)⟩
  unfold doneVal same8
  rw [run_eql_struct, show (10000 : Nat) = 9999 + 1 from rfl, run_equalIn_array w 9999 _ _ Try.underlying43 (i := (Try.prog.info? 4).get!) (by kernel_rfl)]
  rw [show Try.prog.cellsOf 4 = 1 from by kernel_rfl, show List.range 8 = [0, 1, 2, 3, 4, 5, 6, 7] from rfl]
  simp only [Op.eqItems]
  go_simp
  cases h0 : x 0 == y 0
  · simp_all
  · cases h1 : x 1 == y 1
    · simp_all
    · cases h2 : x 2 == y 2
      · simp_all
      · cases h3 : x 3 == y 3
        · simp_all
        · cases h4 : x 4 == y 4
          · simp_all
          · cases h5 : x 5 == y 5
            · simp_all
            · cases h6 : x 6 == y 6
              · simp_all
              · cases h7 : x 7 == y 7
                · simp_all
                · simp_all
end Go.Proofs.Ytnomghcieomjmaa
