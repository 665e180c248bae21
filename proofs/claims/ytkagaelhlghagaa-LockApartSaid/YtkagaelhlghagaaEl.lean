/- The elements of the arguments: bytes and locks. -/
import Derived.Test.YtkagaelhlghagaaDice
import Derived.Test.YtkagaelhlghagaaPlain
import Derived.Test.YtkagaelhlghagaaLift
namespace Go.Proofs.Ytkagaelhlghagaa
open Go.ChangeShapes Go.WideShapes Go.ChangeAt Go.RowKit Go.Deep
section
variable {H : Type} {enc : TypeId × Value → H} {W : World}
theorem el_byte {sp : Nat → Bool} : ∀ n cs y, cs.length = 1 → DataW.trod enc Try.prog W 0 sp true n 5 cs = some y → ∃ x : Int, cs = byteCells x ∧ (0 ≤ x ∧ x ≤ 255) := by
  intro n cs y _ h
  obtain ⟨x, rfl, _, hw⟩ := DataW.trod_int Try.underlying5 h
  exact ⟨x, rfl, wf_u8 hw⟩
theorem el_lk {sp : Nat → Bool} : ∀ n cs y, cs.length = 2 → DataW.trod enc Try.prog W 0 sp true n 43 cs = some y → ∃ x : Lk, cs = x.cells ∧ ((-9223372036854775808 ≤ x.number ∧ x.number ≤ 9223372036854775807) ∧ (-9223372036854775808 ≤ x.holder ∧ x.holder ≤ 9223372036854775807)) := by
  intro n cs y hl h
  have hf := trod_fields Try.underlying43 (by kernel_rfl) hl h
  obtain ⟨v0, y0, n0, h0, t0⟩ := hf 0 _ rfl
  obtain ⟨v1, y1, n1, h1, t1⟩ := hf 1 _ rfl
  obtain ⟨b, e0, _, hw0⟩ := DataW.trod_int Try.underlying2 t0
  obtain ⟨z, e1, _, hw⟩ := DataW.trod_int Try.underlying3 t1
  simp at e0 e1
  subst e0 e1
  refine ⟨⟨b, z⟩, ?_, wf_i64 hw0, wf_i64 hw⟩
  match cs, hl, h0, h1 with
  | [a, c], _, h0, h1 => simp at h0 h1; subst h0 h1; rfl
end
end Go.Proofs.Ytkagaelhlghagaa
