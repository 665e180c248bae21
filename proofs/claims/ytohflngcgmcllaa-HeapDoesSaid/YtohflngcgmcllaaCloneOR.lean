/- slices.Clone of records: the copy reads as the same records. Conditions: few elements. -/
import Derived.Test.YtohflngcgmcllaaKit2
import Derived.Test.YtohflngcgmcllaaCloneO
import Derived.Test.YtohflngcgmcllaaPlain
namespace Go.Proofs.Ytohflngcgmcllaa
open Go.RowKit
theorem CloneObj.recs (A : Option Addr) (n c : Nat) (l : List Ob) (w : World) (hs : Sl w w.heap.size 2 Ob.cells A n l) (hn : n ≤ 4398046510976) :
    Calls Try.prog 37 #[.slice A n c] w fun e w' => ∃ A' c', e = .returned (.slice A' n c') ∧ w'.ownsRow w.heap.size 27 2 (.slice A' n c') n (l.flatMap Ob.cells) ∧ Sl w' w'.heap.size 2 Ob.cells A' n l ∧ Below w.heap.size w w' ∧
      (0 < n → ∃ g, A' = some ⟨g, 0, none⟩ ∧ w.heap.size ≤ g ∧ g < w'.heap.size ∧ ∀ j, w'.frozen? ⟨g, j, none⟩ = false) := by
  have h := Sl.src hs Ob.size
  refine (CloneObj.any A n c (l.flatMap Ob.cells) w h.1 h.2 (by rw [flat_len Ob.size, hs.len]) hn (ob_one l)).mono ?_
  rintro e w2 ⟨A2, c2, rfl, hown, hb2⟩
  exact ⟨A2, c2, rfl, hown, Sl.of_own Ob.size hs.len hown, hb2, fun h => own_at0 hown h⟩
end Go.Proofs.Ytohflngcgmcllaa
