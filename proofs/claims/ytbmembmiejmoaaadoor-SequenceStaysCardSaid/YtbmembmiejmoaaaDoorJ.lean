/- A task begins at 1, and there is no ask at 1: the code of the sanity check. -/
import Derived.Test.YtbmembmiejmoaaaDoorI
namespace Go.Proofs.YtbmembmiejmoaaaDoor
open Go.RowKit

theorem asks_any (ab : Nat) (w : World) (hc : C3 w ab) (ht : Tab w) :
    Calls Tryd.prog 28 #[.agg #[.slice (some ⟨ab, 0, none⟩) 3 3, .int .i64 0, .int .i64 1], .int .i64 1] w fun e w' => e = .returned (.bool false) ∧ Below w.heap.size w w' := by
  have hbW : Below w.heap.size w (w.alloc (.cells #[.slice (some ⟨ab, 0, none⟩) 3 3, .int .i64 0, .int .i64 1] 54)) := (Below.refl _ _).alloc (Nat.le_refl _) _
  go_enter Tryd.func28, Tryd.ntmps28
  go_wp2_with fail
  refine (valid_any ab _ (hc.below hbW) (ht.below hbW)).mono ?_
  rintro e w1 ⟨rfl, hb1⟩
  have hbe : Below w.heap.size w w1 := hbW.trans (hb1.mono (by simp))
  have p0 : w1.cell? ⟨w.heap.size, 0, none⟩ = some (.slice (some ⟨ab, 0, none⟩) 3 3) := (hb1.cell (p := ⟨w.heap.size, 0, none⟩) (by simp)).trans (by simp)
  have c5 := (belc hbe hc.lt).trans hc.c5
  go_wp2
  go_ret
  exact ⟨rfl, hbe⟩

theorem marked_1 (ab p : Nat) (w : World) (hp : w.cell? ⟨p, 0, none⟩ = some (.slice (some ⟨ab, 0, none⟩) 3 3)) (hc : C3 w ab) :
    Calls Tryd.prog 34 #[.int .i64 1, .pointer (some ⟨p, 0, none⟩)] w fun e w' => e = .returned (.bool false) ∧ Below w.heap.size w w' := by
  have c5 := hc.c5
  go_enter Tryd.func34, Tryd.ntmps34
  go_wp2
  go_ret
  exact ⟨rfl, Below.refl _ _⟩
theorem marked_0 (ab p : Nat) (w : World) (hp : w.cell? ⟨p, 0, none⟩ = some (.slice (some ⟨ab, 0, none⟩) 3 3)) (hc : C3 w ab) :
    Calls Tryd.prog 34 #[.int .i64 0, .pointer (some ⟨p, 0, none⟩)] w fun e w' => e = .returned (.bool true) ∧ Below w.heap.size w w' := by
  have c0 := hc.c0
  go_enter Tryd.func34, Tryd.ntmps34
  go_wp2
  go_ret
  exact ⟨rfl, Below.refl _ _⟩

set_option maxRecDepth 100000 in
theorem place_any (ab : Nat) (w : World) (hc : C3 w ab) :
    Calls Tryd.prog 31 #[.agg #[.slice (some ⟨ab, 0, none⟩) 3 3, .int .i64 0, .int .i64 1], .int .i64 1] w fun e w' => e = .returned (.bool true) ∧ Below w.heap.size w w' := by
  have hbW : Below w.heap.size w (w.alloc (.cells #[.slice (some ⟨ab, 0, none⟩) 3 3, .int .i64 0, .int .i64 1] 54)) := (Below.refl _ _).alloc (Nat.le_refl _) _
  have c0 := hc.c0
  have lc := hc.lt
  go_enter Tryd.func31, Tryd.ntmps31
  go_wp2_with fail
  refine (marked_1 ab w.heap.size _ (by simp) (hc.below hbW)).mono ?_
  rintro e w1 ⟨rfl, hb1⟩
  have hbe : Below w.heap.size w w1 := hbW.trans (hb1.mono (by simp))
  have p0 : w1.cell? ⟨w.heap.size, 0, none⟩ = some (.slice (some ⟨ab, 0, none⟩) 3 3) := (hb1.cell (p := ⟨w.heap.size, 0, none⟩) (by simp)).trans (by simp)
  go_wp2_with fail
  refine (marked_0 ab w.heap.size _ p0 (hc.below hbe)).mono ?_
  rintro e w2 ⟨rfl, hb2⟩
  have hb3 := hbe.trans (hb2.mono hbe.size)
  go_wp2
  go_ret
  exact ⟨rfl, hb3⟩
theorem placeE_any (ab : Nat) (w : World) (hc : C3 w ab) :
    Calls Tryd.prog 27 #[.agg #[.slice (some ⟨ab, 0, none⟩) 3 3, .int .i64 0, .int .i64 1], .int .i64 1] w fun e w' => e = .returned (.bool true) ∧ Below w.heap.size w w' := by
  have hbW : Below w.heap.size w (w.alloc (.cells #[.slice (some ⟨ab, 0, none⟩) 3 3, .int .i64 0, .int .i64 1] 54)) := (Below.refl _ _).alloc (Nat.le_refl _) _
  go_enter Tryd.func27, Tryd.ntmps27
  go_wp2_with fail
  refine (place_any ab _ (hc.below hbW)).mono ?_
  rintro e w1 ⟨rfl, hb1⟩
  have hbe : Below w.heap.size w w1 := hbW.trans (hb1.mono (by simp))
  go_wp2
  go_ret
  exact ⟨rfl, hbe⟩
end Go.Proofs.YtbmembmiejmoaaaDoor
