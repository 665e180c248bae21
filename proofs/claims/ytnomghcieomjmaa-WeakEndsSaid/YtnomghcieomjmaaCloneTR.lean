/- slices.Clone of records: the copy reads as the same records. Conditions: few elements. -/
import Derived.Test.YtnomghcieomjmaaKit2
import Derived.Test.YtnomghcieomjmaaCloneT
import Derived.Test.YtnomghcieomjmaaL
namespace Go.Proofs.Ytnomghcieomjmaa
open Go.RowKit
theorem CloneTr.recs (A : Option Addr) (n c : Nat) (l : List Tr) (w : World) (hs : Sl w w.heap.size 17 Tr.cells A n l) (hn : n ≤ 1000000) :
    Calls Try.prog 54 #[.slice A n c] w fun e w' => ∃ A' c', e = .returned (.slice A' n c') ∧ w'.ownsRow w.heap.size 47 17 (.slice A' n c') n (l.flatMap Tr.cells) ∧ Sl w' w'.heap.size 17 Tr.cells A' n l ∧ Below w.heap.size w w' ∧
      (0 < n → ∃ g, A' = some ⟨g, 0, none⟩ ∧ w.heap.size ≤ g ∧ g < w'.heap.size ∧ ∀ j, w'.frozen? ⟨g, j, none⟩ = false) := by
  have h := Sl.src hs Tr.size
  refine (CloneTr.any A n c (l.flatMap Tr.cells) w h.1 h.2 (by rw [flat_len Tr.size, hs.len]) hn (tr_ones l)).mono ?_
  rintro e w2 ⟨A2, c2, rfl, hown, hb2⟩
  exact ⟨A2, c2, rfl, hown, Sl.of_own Tr.size hs.len hown, hb2, fun h => own_at0 hown h⟩
end Go.Proofs.Ytnomghcieomjmaa
