/- slices.Clone of records: the copy reads as the same records. Conditions: few elements. -/
import Derived.Test.YtignbncphdemlaaKit2
import Derived.Test.YtignbncphdemlaaCloneA
import Derived.Test.YtignbncphdemlaaA
namespace Go.Proofs.Ytignbncphdemlaa
open Go.RowKit
theorem CloneAcc.recs (A : Option Addr) (n c : Nat) (l : List Acc) (w : World) (hs : Sl w w.heap.size 8 Acc.cells A n l) (hn : n ≤ 1000000) :
    Calls Try.prog 32 #[.slice A n c] w fun e w' => ∃ A' c', e = .returned (.slice A' n c') ∧ w'.ownsRow w.heap.size 41 8 (.slice A' n c') n (l.flatMap Acc.cells) ∧ Sl w' w'.heap.size 8 Acc.cells A' n l ∧ Below w.heap.size w w' ∧
      (0 < n → ∃ g, A' = some ⟨g, 0, none⟩ ∧ w.heap.size ≤ g ∧ g < w'.heap.size ∧ ∀ j, w'.frozen? ⟨g, j, none⟩ = false) := by
  have h := Sl.src hs Acc.size
  refine (CloneAcc.any A n c (l.flatMap Acc.cells) w h.1 h.2 (by rw [flat_len Acc.size, hs.len]) hn (acc_one l)).mono ?_
  rintro e w2 ⟨A2, c2, rfl, hown, hb2⟩
  exact ⟨A2, c2, rfl, hown, Sl.of_own Acc.size hs.len hown, hb2, fun h => own_at0 hown h⟩
end Go.Proofs.Ytignbncphdemlaa
