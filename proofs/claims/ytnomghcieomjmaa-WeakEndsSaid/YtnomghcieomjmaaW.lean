/- The example of the chapter, plainly. -/
import Derived.Test.YtnomghcieomjmaaV
namespace Go.Proofs.Ytnomghcieomjmaa
open Go.RowKit

def exT : List (List POp) := [[⟨1, 0, 1, 0, 0⟩, ⟨2, 1, 0, 0, 0⟩], [⟨1, 1, 1, 0, 0⟩, ⟨2, 0, 0, 0, 0⟩]]
def exM : List Mv := [⟨0, 0, 0⟩, ⟨0, 1, 0⟩, ⟨1, 0, 0⟩, ⟨1, 1, 0⟩, ⟨0, -1, 0⟩, ⟨1, -1, 0⟩]
def exR : ((Nat → Int) × List Pt) × Nat × Int := runF 1 exT (fun _ => 0) (List.replicate 2 ⟨fun _ => false, fun _ => 0, []⟩) exM
theorem ex_valid : validT exT = true := by rfl
theorem ex_n : exR.2 = (6, 0) := by rfl
theorem ex_mem : exR.1.1 0 = 1 := by rfl
theorem ex_end : endedP exT exR.1.2 = true := by rfl
theorem ex_reg : exR.1.2.map (fun t => t.regs 0) = [0, 0] := by rfl
theorem ex_bad : runF 0 exT (fun _ => 0) (List.replicate 2 ⟨fun _ => false, fun _ => 0, []⟩) [⟨0, 1, 0⟩] = (((fun _ => 0), List.replicate 2 ⟨fun _ => false, fun _ => 0, []⟩), 0, 7) := by rfl
end Go.Proofs.Ytnomghcieomjmaa
