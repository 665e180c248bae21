/- The elements of the arguments: small numbers. -/
import Derived.Test.YtbmembmiejmoaaaDoorLD
import Derived.Test.YtbmembmiejmoaaaDoorO
namespace Go.Proofs.YtbmembmiejmoaaaDoor
open Go.ChangeShapes Go.WideShapes Go.ChangeAt Go.RowKit Go.Deep
theorem wf_i8 {n : Int} (h : (Lit.int .i8 n).wf = true) : -128 ≤ n ∧ n ≤ 127 := by
  have h1 : IntKind.i8.min = -128 := rfl
  have h2 : IntKind.i8.max = 127 := rfl
  simp only [Lit.wf, Bool.and_eq_true, decide_eq_true_eq] at h
  omega
theorem el_i8 {H : Type} {enc : TypeId × Value → H} {W : World} {sp : Nat → Bool} : ∀ n cs y, cs.length = 1 → DataW.trod enc Tryd.prog W 0 sp true n 28 cs = some y → ∃ x : Int, cs = i8Cells x ∧ (-128 ≤ x ∧ x ≤ 127) := by
  intro n cs y _ h
  obtain ⟨x, rfl, _, hw⟩ := DataW.trod_int Tryd.underlying28 h
  exact ⟨x, rfl, wf_i8 hw⟩
end Go.Proofs.YtbmembmiejmoaaaDoor
