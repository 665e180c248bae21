/- slices.Clone of records: the copy reads as the same records. Conditions: few elements. -/
import Derived.Test.YtfhpniafkkgibaaDoorKit2
import Derived.Test.YtfhpniafkkgibaaDoorCloneV
import Derived.Test.YtfhpniafkkgibaaDoorPlain
namespace Go.Proofs.YtfhpniafkkgibaaDoor
open Go.RowKit
theorem CloneVal.recs (A : Option Addr) (n c : Nat) (l : List Val) (w : World) (hs : Sl w w.heap.size 2 Val.cells A n l) (hn : n ≤ 8796093021952) :
    Calls Tryd.prog 38 #[.slice A n c] w fun e w' => ∃ A' c', e = .returned (.slice A' n c') ∧ w'.ownsRow w.heap.size 26 2 (.slice A' n c') n (l.flatMap Val.cells) ∧ Sl w' w'.heap.size 2 Val.cells A' n l ∧ Below w.heap.size w w' ∧
      (0 < n → ∃ g, A' = some ⟨g, 0, none⟩ ∧ w.heap.size ≤ g ∧ g < w'.heap.size ∧ ∀ j, w'.frozen? ⟨g, j, none⟩ = false) := by
  have h := Sl.src hs Val.size
  refine (CloneVal.any A n c (l.flatMap Val.cells) w h.1 h.2 (by rw [flat_len Val.size, hs.len]) hn (val_one l)).mono ?_
  rintro e w2 ⟨A2, c2, rfl, hown, hb2⟩
  exact ⟨A2, c2, rfl, hown, Sl.of_own Val.size hs.len hown, hb2, fun h => own_at0 hown h⟩
end Go.Proofs.YtfhpniafkkgibaaDoor
