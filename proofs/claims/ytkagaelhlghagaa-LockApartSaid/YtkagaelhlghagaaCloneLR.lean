/- slices.Clone of records: the copy reads as the same records. Conditions: few elements. -/
import Derived.Test.YtkagaelhlghagaaKit2
import Derived.Test.YtkagaelhlghagaaCloneL
import Derived.Test.YtkagaelhlghagaaPlain
namespace Go.Proofs.Ytkagaelhlghagaa
open Go.RowKit
theorem CloneLock.recs (A : Option Addr) (n c : Nat) (l : List Lk) (w : World) (hs : Sl w w.heap.size 2 Lk.cells A n l) (hn : n ≤ 1000000) :
    Calls Try.prog 27 #[.slice A n c] w fun e w' => ∃ A' c', e = .returned (.slice A' n c') ∧ w'.ownsRow w.heap.size 43 2 (.slice A' n c') n (l.flatMap Lk.cells) ∧ Sl w' w'.heap.size 2 Lk.cells A' n l ∧ Below w.heap.size w w' ∧
      (0 < n → ∃ g, A' = some ⟨g, 0, none⟩ ∧ w.heap.size ≤ g ∧ g < w'.heap.size ∧ ∀ j, w'.frozen? ⟨g, j, none⟩ = false) := by
  have h := Sl.src hs Lk.size
  refine (CloneLock.any A n c (l.flatMap Lk.cells) w h.1 h.2 (by rw [flat_len Lk.size, hs.len]) hn (lk_one l)).mono ?_
  rintro e w2 ⟨A2, c2, rfl, hown, hb2⟩
  exact ⟨A2, c2, rfl, hown, Sl.of_own Lk.size hs.len hown, hb2, fun h => own_at0 hown h⟩
end Go.Proofs.Ytkagaelhlghagaa
