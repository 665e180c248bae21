/- slices.Clone of records: the copy reads as the same records. Conditions: few elements. -/
import Derived.Test.YtnomghcieomjmaaKit2
import Derived.Test.YtnomghcieomjmaaCloneW
import Derived.Test.YtnomghcieomjmaaL
namespace Go.Proofs.Ytnomghcieomjmaa
open Go.RowKit
theorem CloneWt.recs (A : Option Addr) (n c : Nat) (l : List Wt) (w : World) (hs : Sl w w.heap.size 2 Wt.cells A n l) (hn : n ≤ 1000000) :
    Calls Try.prog 55 #[.slice A n c] w fun e w' => ∃ A' c', e = .returned (.slice A' n c') ∧ w'.ownsRow w.heap.size 72 2 (.slice A' n c') n (l.flatMap Wt.cells) ∧ Sl w' w'.heap.size 2 Wt.cells A' n l ∧ Below w.heap.size w w' ∧
      (0 < n → ∃ g, A' = some ⟨g, 0, none⟩ ∧ w.heap.size ≤ g ∧ g < w'.heap.size ∧ ∀ j, w'.frozen? ⟨g, j, none⟩ = false) := by
  have h := Sl.src hs Wt.size
  refine (CloneWt.any A n c (l.flatMap Wt.cells) w h.1 h.2 (by rw [flat_len Wt.size, hs.len]) hn (wt_ones l)).mono ?_
  rintro e w2 ⟨A2, c2, rfl, hown, hb2⟩
  exact ⟨A2, c2, rfl, hown, Sl.of_own Wt.size hs.len hown, hb2, fun h => own_at0 hown h⟩
end Go.Proofs.Ytnomghcieomjmaa
