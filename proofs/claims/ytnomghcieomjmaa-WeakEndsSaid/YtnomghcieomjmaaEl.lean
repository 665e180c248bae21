/- The elements of the arguments: bytes. -/
import Derived.Test.YtnomghcieomjmaaDice
import Derived.Test.YtnomghcieomjmaaLift
namespace Go.Proofs.Ytnomghcieomjmaa
open Go.ChangeShapes Go.WideShapes Go.ChangeAt Go.RowKit Go.Deep
section
variable {H : Type} {enc : TypeId × Value → H} {W : World}
theorem el_byte {sp : Nat → Bool} : ∀ n cs y, cs.length = 1 → DataW.trod enc Try.prog W 0 sp true n 5 cs = some y → ∃ x : Int, cs = byteCells x ∧ (0 ≤ x ∧ x ≤ 255) := by
  intro n cs y _ h
  obtain ⟨x, rfl, _, hw⟩ := DataW.trod_int Try.underlying5 h
  exact ⟨x, rfl, wf_u8 hw⟩
end
end Go.Proofs.Ytnomghcieomjmaa
