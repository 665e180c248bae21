/- Operations that are formed. -/
import Derived.Test.YtnomghcieomjmaaA
import Derived.Deep.DeepCutAuto
import Derived.Deep.RegionHeld3
namespace Go.Proofs.Ytnomghcieomjmaa
open Go.RowKit

def fitsB (n lim : Int) (has : Bool) : Bool := decide (n = 0) || (has && decide (0 < n) && decide (n ≤ lim))
set_option maxHeartbeats 1000000 in
theorem fits_any (n lim : Int) (has : Bool) (w : World) : Calls Try.prog 57 #[.int .i64 n, .int .i64 lim, .bool has] w fun e w' => e = .returned (.bool (fitsB n lim has)) ∧ Below w.heap.size w w' := by
  by_cases h0 : n = 0
  · have hv : fitsB n lim has = true := by simp [fitsB, h0]
    rw [hv]
    subst h0
    go_enter Try.func57, Try.ntmps57
    go_wp2
    go_ret
    exact ⟨rfl, Below.refl _ _⟩
  · cases has with
    | false =>
      have hv : fitsB n lim false = false := by simp [fitsB, h0]
      rw [hv]
      go_enter Try.func57, Try.ntmps57
      go_wp2
      go_ret
      exact ⟨by simp [h0], Below.refl _ _⟩
    | true =>
      by_cases h1 : 0 < n
      · have hv : fitsB n lim true = decide (n ≤ lim) := by simp [fitsB, h0, h1]
        rw [hv]
        go_enter Try.func57, Try.ntmps57
        go_wp2
        go_ret
        exact ⟨by simp [h0], Below.refl _ _⟩
      · have hv : fitsB n lim true = false := by simp [fitsB, h0, h1]
        rw [hv]
        go_enter Try.func57, Try.ntmps57
        go_wp2
        go_ret
        exact ⟨by simp [h0], Below.refl _ _⟩
end Go.Proofs.Ytnomghcieomjmaa
