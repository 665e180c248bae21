/- A code of three instructions is valid; a task can begin at 1, and there is no ask. -/
import Derived.Test.YtbmembmiejmoaaaDoorG
import Derived.RegionTactic
import Derived.ChangeAlike
import Derived.Deep.RegionWith
namespace Go.Proofs.YtbmembmiejmoaaaDoor
open Go.RowKit

/-- The three instructions in memory. -/
structure C3 (w : World) (ab : Nat) : Prop where
  lt : ab < w.heap.size
  c0 : w.cell? ⟨ab, 0, none⟩ = some (.int .i64 21)
  c1 : w.cell? ⟨ab, 1, none⟩ = some (.int .i64 0)
  c2 : w.cell? ⟨ab, 2, none⟩ = some (.int .i64 0)
  c3 : w.cell? ⟨ab, 3, none⟩ = some (.int .i64 0)
  c4 : w.cell? ⟨ab, 4, none⟩ = some (.int .i64 0)
  c5 : w.cell? ⟨ab, 5, none⟩ = some (.int .i64 1)
  c6 : w.cell? ⟨ab, 6, none⟩ = some (.int .i64 1)
  c7 : w.cell? ⟨ab, 7, none⟩ = some (.int .i64 0)
  c8 : w.cell? ⟨ab, 8, none⟩ = some (.int .i64 0)
  c9 : w.cell? ⟨ab, 9, none⟩ = some (.int .i64 3)
  c10 : w.cell? ⟨ab, 10, none⟩ = some (.int .i64 14)
  c11 : w.cell? ⟨ab, 11, none⟩ = some (.int .i64 1)
  c12 : w.cell? ⟨ab, 12, none⟩ = some (.int .i64 0)
  c13 : w.cell? ⟨ab, 13, none⟩ = some (.int .i64 0)
  c14 : w.cell? ⟨ab, 14, none⟩ = some (.int .i64 0)
theorem C3.below {w w' : World} {ab : Nat} (h : C3 w ab) (hb : Below w.heap.size w w') : C3 w' ab := ⟨by have := hb.size; have := h.lt; omega, (belc hb h.lt).trans h.c0, (belc hb h.lt).trans h.c1, (belc hb h.lt).trans h.c2, (belc hb h.lt).trans h.c3, (belc hb h.lt).trans h.c4, (belc hb h.lt).trans h.c5, (belc hb h.lt).trans h.c6, (belc hb h.lt).trans h.c7, (belc hb h.lt).trans h.c8, (belc hb h.lt).trans h.c9, (belc hb h.lt).trans h.c10, (belc hb h.lt).trans h.c11, (belc hb h.lt).trans h.c12, (belc hb h.lt).trans h.c13, (belc hb h.lt).trans h.c14⟩
/-- What is looked at of the table of instructions. -/
structure Tab (w : World) : Prop where
  lt : 0 < w.heap.size
  t84 : w.cell? ⟨0, 84, none⟩ = some (.int .i64 0)
  t85 : w.cell? ⟨0, 85, none⟩ = some (.int .i64 0)
  t86 : w.cell? ⟨0, 86, none⟩ = some (.int .i64 0)
  t87 : w.cell? ⟨0, 87, none⟩ = some (.int .i64 13)
  t4 : w.cell? ⟨0, 4, none⟩ = some (.int .i64 1)
  t5 : w.cell? ⟨0, 5, none⟩ = some (.int .i64 0)
  t6 : w.cell? ⟨0, 6, none⟩ = some (.int .i64 0)
  t7 : w.cell? ⟨0, 7, none⟩ = some (.int .i64 2)
  t56 : w.cell? ⟨0, 56, none⟩ = some (.int .i64 1)
  t57 : w.cell? ⟨0, 57, none⟩ = some (.int .i64 0)
  t58 : w.cell? ⟨0, 58, none⟩ = some (.int .i64 0)
  t59 : w.cell? ⟨0, 59, none⟩ = some (.int .i64 0)
theorem Tab.below {w w' : World} (h : Tab w) (hb : Below w.heap.size w w') : Tab w' := ⟨by have := hb.size; have := h.lt; omega, (belc hb h.lt).trans h.t84, (belc hb h.lt).trans h.t85, (belc hb h.lt).trans h.t86, (belc hb h.lt).trans h.t87, (belc hb h.lt).trans h.t4, (belc hb h.lt).trans h.t5, (belc hb h.lt).trans h.t6, (belc hb h.lt).trans h.t7, (belc hb h.lt).trans h.t56, (belc hb h.lt).trans h.t57, (belc hb h.lt).trans h.t58, (belc hb h.lt).trans h.t59⟩

theorem grown_set (w : World) (p : Addr) (u : Value) : w.grownBy (w.setCell p u) (some p.block) := ⟨rfl, rfl, rfl, by simp, fun k _ hkr => Below.heap_setCell w p u k (fun e => hkr (by rw [e]))⟩
theorem within_yes (x lo hi : Int) (w : World) (h1 : lo ≤ x) (h2 : x ≤ hi) :
    Calls Tryd.prog 35 #[.int .i64 x, .int .i64 lo, .int .i64 hi] w fun e w' => e = .returned (.bool true) ∧ Below w.heap.size w w' := by
  have d1 : decide (lo ≤ x) = true := by simpa using h1
  have d2 : decide (x ≤ hi) = true := by simpa using h2
  go_enter Tryd.func35, Tryd.ntmps35
  go_wp2
  go_ret
  exact ⟨rfl, Below.refl _ _⟩

/-- The reader: the code, the place, and how many marks there were. -/
structure Rd (w : World) (rb ab : Nat) (i m : Int) : Prop where
  lt : rb < w.heap.size
  c0 : w.cell? ⟨rb, 0, none⟩ = some (.slice (some ⟨ab, 0, none⟩) 3 3)
  c1 : w.cell? ⟨rb, 1, none⟩ = some (.int .i64 0)
  c2 : w.cell? ⟨rb, 2, none⟩ = some (.int .i64 1)
  c3 : w.cell? ⟨rb, 3, none⟩ = some (.int .i64 i)
  c4 : w.cell? ⟨rb, 4, none⟩ = some (.int .i64 m)
  fr : ∀ j, w.frozen? ⟨rb, j, none⟩ = false
theorem Rd.below {w w' : World} {rb ab : Nat} {i m : Int} (h : Rd w rb ab i m) (hb : Below w.heap.size w w') : Rd w' rb ab i m :=
  ⟨by have := hb.size; have := h.lt; omega, (belc hb h.lt).trans h.c0, (belc hb h.lt).trans h.c1, (belc hb h.lt).trans h.c2, (belc hb h.lt).trans h.c3, (belc hb h.lt).trans h.c4, fun j => (belf hb h.lt).trans (h.fr j)⟩
theorem Rd.set3 {w : World} {rb ab : Nat} {i m : Int} (h : Rd w rb ab i m) (k : Int) : Rd (w.setCell ⟨rb, 3, none⟩ (.int .i64 k)) rb ab k m :=
  ⟨by simpa using h.lt, (set_other _ _ _ _ (by simp)).trans h.c0, (set_other _ _ _ _ (by simp)).trans h.c1, (set_other _ _ _ _ (by simp)).trans h.c2, World.cell?_setCell_same _ _ _ h.c3, (set_other _ _ _ _ (by simp)).trans h.c4, fun j => by rw [World.frozen?_setCell]; exact h.fr j⟩
theorem Rd.set4 {w : World} {rb ab : Nat} {i m : Int} (h : Rd w rb ab i m) (k : Int) : Rd (w.setCell ⟨rb, 4, none⟩ (.int .i64 k)) rb ab i k :=
  ⟨by simpa using h.lt, (set_other _ _ _ _ (by simp)).trans h.c0, (set_other _ _ _ _ (by simp)).trans h.c1, (set_other _ _ _ _ (by simp)).trans h.c2, (set_other _ _ _ _ (by simp)).trans h.c3, World.cell?_setCell_same _ _ _ h.c4, fun j => by rw [World.frozen?_setCell]; exact h.fr j⟩

set_option maxRecDepth 100000 in
set_option maxHeartbeats 1000000 in
theorem right_0_0 (rb ab : Nat) (m : Int) (w : World) (hr : Rd w rb ab 0 m) (hc : C3 w ab) :
    Calls Tryd.prog 40 #[.pointer (some ⟨rb, 0, none⟩), .int .i64 0, .int .i64 0] w fun e w' => e = .returned (.bool true) ∧ Below w.heap.size w w' := by
  have r0 := hr.c0
  have r3 := hr.c3
  have lr := hr.lt
  have lc := hc.lt
  have c0 := hc.c0
  have c1 := hc.c1
  have c2 := hc.c2
  have c3 := hc.c3
  have c4 := hc.c4
  go_enter Tryd.func40, Tryd.ntmps40
  go_wp2
  go_region
  go_wp2
  go_ret
  exact ⟨rfl, (by repeat (first | (with_reducible exact (Below.refl _ _)) | (with_reducible refine Below.drew ?_) | (with_reducible refine below_drewN ?_ _) | (with_reducible refine Below.setCell ?_ ?_ _; rotate_left; (first | omega | (simp <;> omega))) | (with_reducible refine Below.alloc ?_ ?_ _; rotate_left; (first | omega | (simp <;> omega)))))⟩

set_option maxRecDepth 100000 in
set_option maxHeartbeats 1000000 in
theorem right_0_1 (rb ab : Nat) (m : Int) (w : World) (hr : Rd w rb ab 1 m) (hc : C3 w ab) :
    Calls Tryd.prog 40 #[.pointer (some ⟨rb, 0, none⟩), .int .i64 0, .int .i64 0] w fun e w' => e = .returned (.bool true) ∧ Below w.heap.size w w' := by
  have r0 := hr.c0
  have r3 := hr.c3
  have lr := hr.lt
  have lc := hc.lt
  have c0 := hc.c5
  have c1 := hc.c6
  have c2 := hc.c7
  have c3 := hc.c8
  have c4 := hc.c9
  go_enter Tryd.func40, Tryd.ntmps40
  go_wp2
  go_region
  go_wp2
  go_ret
  exact ⟨rfl, (by repeat (first | (with_reducible exact (Below.refl _ _)) | (with_reducible refine Below.drew ?_) | (with_reducible refine below_drewN ?_ _) | (with_reducible refine Below.setCell ?_ ?_ _; rotate_left; (first | omega | (simp <;> omega))) | (with_reducible refine Below.alloc ?_ ?_ _; rotate_left; (first | omega | (simp <;> omega)))))⟩

set_option maxRecDepth 100000 in
set_option maxHeartbeats 1000000 in
theorem right_0_2 (rb ab : Nat) (m : Int) (w : World) (hr : Rd w rb ab 2 m) (hc : C3 w ab) :
    Calls Tryd.prog 40 #[.pointer (some ⟨rb, 0, none⟩), .int .i64 0, .int .i64 0] w fun e w' => e = .returned (.bool true) ∧ Below w.heap.size w w' := by
  have r0 := hr.c0
  have r3 := hr.c3
  have lr := hr.lt
  have lc := hc.lt
  have c0 := hc.c10
  have c1 := hc.c11
  have c2 := hc.c12
  have c3 := hc.c13
  have c4 := hc.c14
  go_enter Tryd.func40, Tryd.ntmps40
  go_wp2
  go_region
  go_wp2
  go_ret
  exact ⟨rfl, (by repeat (first | (with_reducible exact (Below.refl _ _)) | (with_reducible refine Below.drew ?_) | (with_reducible refine below_drewN ?_ _) | (with_reducible refine Below.setCell ?_ ?_ _; rotate_left; (first | omega | (simp <;> omega))) | (with_reducible refine Below.alloc ?_ ?_ _; rotate_left; (first | omega | (simp <;> omega)))))⟩

set_option maxRecDepth 100000 in
set_option maxHeartbeats 1000000 in
theorem right_1_1 (rb ab : Nat) (m : Int) (w : World) (hr : Rd w rb ab 1 m) (hc : C3 w ab) :
    Calls Tryd.prog 40 #[.pointer (some ⟨rb, 0, none⟩), .int .i64 1, .int .i64 1] w fun e w' => e = .returned (.bool true) ∧ Below w.heap.size w w' := by
  have r0 := hr.c0
  have r3 := hr.c3
  have lr := hr.lt
  have lc := hc.lt
  have c0 := hc.c5
  have c1 := hc.c6
  have c2 := hc.c7
  have c3 := hc.c8
  have c4 := hc.c9
  go_enter Tryd.func40, Tryd.ntmps40
  go_wp2
  go_region
  go_wp2_with fail
  refine (within_yes 1 0 15 _ (by omega) (by omega)).mono ?_
  rintro e w1 ⟨rfl, hb1⟩
  have hbe : Below w.heap.size w w1 := Below.trans (by repeat (first | (with_reducible exact (Below.refl _ _)) | (with_reducible refine Below.drew ?_) | (with_reducible refine below_drewN ?_ _) | (with_reducible refine Below.setCell ?_ ?_ _; rotate_left; (first | omega | (simp <;> omega))) | (with_reducible refine Below.alloc ?_ ?_ _; rotate_left; (first | omega | (simp <;> omega))))) (hb1.mono (by simp))
  go_wp2
  go_ret
  exact ⟨rfl, hbe⟩

set_option maxRecDepth 100000 in
set_option maxHeartbeats 1000000 in
theorem right_1_2 (rb ab : Nat) (m : Int) (w : World) (hr : Rd w rb ab 2 m) (hc : C3 w ab) :
    Calls Tryd.prog 40 #[.pointer (some ⟨rb, 0, none⟩), .int .i64 1, .int .i64 1] w fun e w' => e = .returned (.bool true) ∧ Below w.heap.size w w' := by
  have r0 := hr.c0
  have r3 := hr.c3
  have lr := hr.lt
  have lc := hc.lt
  have c0 := hc.c10
  have c1 := hc.c11
  have c2 := hc.c12
  have c3 := hc.c13
  have c4 := hc.c14
  go_enter Tryd.func40, Tryd.ntmps40
  go_wp2
  go_region
  go_wp2_with fail
  refine (within_yes 1 0 15 _ (by omega) (by omega)).mono ?_
  rintro e w1 ⟨rfl, hb1⟩
  have hbe : Below w.heap.size w w1 := Below.trans (by repeat (first | (with_reducible exact (Below.refl _ _)) | (with_reducible refine Below.drew ?_) | (with_reducible refine below_drewN ?_ _) | (with_reducible refine Below.setCell ?_ ?_ _; rotate_left; (first | omega | (simp <;> omega))) | (with_reducible refine Below.alloc ?_ ?_ _; rotate_left; (first | omega | (simp <;> omega))))) (hb1.mono (by simp))
  go_wp2
  go_ret
  exact ⟨rfl, hbe⟩

set_option maxRecDepth 100000 in
set_option maxHeartbeats 1000000 in
theorem right_2_1 (rb ab : Nat) (m : Int) (w : World) (hr : Rd w rb ab 1 m) (hc : C3 w ab) :
    Calls Tryd.prog 40 #[.pointer (some ⟨rb, 0, none⟩), .int .i64 2, .int .i64 3] w fun e w' => e = .returned (.bool true) ∧ Below w.heap.size w w' := by
  have r0 := hr.c0
  have r3 := hr.c3
  have lr := hr.lt
  have lc := hc.lt
  have c0 := hc.c5
  have c1 := hc.c6
  have c2 := hc.c7
  have c3 := hc.c8
  have c4 := hc.c9
  go_enter Tryd.func40, Tryd.ntmps40
  go_wp2
  go_region
  go_wp2
  go_ret
  exact ⟨rfl, (by repeat (first | (with_reducible exact (Below.refl _ _)) | (with_reducible refine Below.drew ?_) | (with_reducible refine below_drewN ?_ _) | (with_reducible refine Below.setCell ?_ ?_ _; rotate_left; (first | omega | (simp <;> omega))) | (with_reducible refine Below.alloc ?_ ?_ _; rotate_left; (first | omega | (simp <;> omega)))))⟩

set_option maxRecDepth 100000 in
set_option maxHeartbeats 1000000 in
theorem right_13 (rb ab : Nat) (w : World) (hr : Rd w rb ab 0 0) (hc : C3 w ab) :
    Calls Tryd.prog 40 #[.pointer (some ⟨rb, 0, none⟩), .int .i64 13, .int .i64 0] w fun e w' => e = .returned (.bool true) ∧ Rd w' rb ab 0 1 ∧ w.grownBy w' (some rb) := by
  have r0 := hr.c0
  have r3 := hr.c3
  have r4 := hr.c4
  have rf := hr.fr 4
  have lr := hr.lt
  have lc := hc.lt
  have c0 := hc.c0
  have c1 := hc.c1
  have c2 := hc.c2
  have c3 := hc.c3
  have c4 := hc.c4
  go_enter Tryd.func40, Tryd.ntmps40
  go_wp2
  go_region
  go_wp2
  go_ret
  exact ⟨rfl, (hr.set4 1).below (by repeat (first | (with_reducible exact (Below.refl _ _)) | (with_reducible refine Below.drew ?_) | (with_reducible refine below_drewN ?_ _) | (with_reducible refine Below.setCell ?_ ?_ _; rotate_left; (first | omega | (simp <;> omega))) | (with_reducible refine Below.alloc ?_ ?_ _; rotate_left; (first | omega | (simp <;> omega))))), (grown_set w ⟨rb, 4, none⟩ _).trans (grown_of_below (by repeat (first | (with_reducible exact (Below.refl _ _)) | (with_reducible refine Below.drew ?_) | (with_reducible refine below_drewN ?_ _) | (with_reducible refine Below.setCell ?_ ?_ _; rotate_left; (first | omega | (simp <;> omega))) | (with_reducible refine Below.alloc ?_ ?_ _; rotate_left; (first | omega | (simp <;> omega))))) _)⟩

theorem mark_0 (ab : Nat) (w : World) (hc : C3 w ab) :
    Calls Tryd.prog 36 #[.agg #[.slice (some ⟨ab, 0, none⟩) 3 3, .int .i64 0, .int .i64 1], .int .i64 0] w fun e w' => e = .returned (.bool true) ∧ Below w.heap.size w w' := by
  have c0 := hc.c0
  have lc := hc.lt
  go_enter Tryd.func36, Tryd.ntmps36
  go_wp2_with fail
  refine (within_yes 0 0 2 _ (by omega) (by omega)).mono ?_
  rintro e w1 ⟨rfl, hb1⟩
  have hbe : Below w.heap.size w w1 := Below.trans (by repeat (first | (with_reducible exact (Below.refl _ _)) | (with_reducible refine Below.drew ?_) | (with_reducible refine below_drewN ?_ _) | (with_reducible refine Below.setCell ?_ ?_ _; rotate_left; (first | omega | (simp <;> omega))) | (with_reducible refine Below.alloc ?_ ?_ _; rotate_left; (first | omega | (simp <;> omega))))) (hb1.mono (by simp))
  have p0 : w1.cell? ⟨w.heap.size, 0, none⟩ = some (.slice (some ⟨ab, 0, none⟩) 3 3) := (hb1.cell (p := ⟨w.heap.size, 0, none⟩) (by simp)).trans (by simp)
  have c0' : w1.cell? ⟨ab, 0, none⟩ = some (.int .i64 21) := (hbe.cell (p := ⟨ab, 0, none⟩) lc).trans c0
  go_wp2
  go_ret
  exact ⟨rfl, hbe⟩

set_option maxRecDepth 100000 in
set_option maxHeartbeats 2000000 in
theorem look_0 (rb ab : Nat) (w : World) (hr : Rd w rb ab 0 0) (hc : C3 w ab) (ht : Tab w) (h0 : 0 < rb) (hab : ab < rb) :
    Calls Tryd.prog 38 #[.pointer (some ⟨rb, 0, none⟩)] w fun e w' => e = .returned (.bool true) ∧ Rd w' rb ab 0 1 ∧ Below rb w w' := by
  have r0 := hr.c0
  have r3 := hr.c3
  have lr := hr.lt
  have lc := hc.lt
  have lt := ht.lt
  have c0 := hc.c0
  have c1 := hc.c1
  have c2 := hc.c2
  have c3 := hc.c3
  have c4 := hc.c4
  have t0 := ht.t84
  have t1 := ht.t85
  have t2 := ht.t86
  have t3 := ht.t87
  go_enter Tryd.func38, Tryd.ntmps38
  go_wp2
  go_region
  go_wp2_with fail
  obtain ⟨W, hW⟩ : ∃ W, W = ((w.alloc (.cells #[.int .i64 21, .int .i64 0, .int .i64 0, .int .i64 0, .int .i64 0] 51)).alloc (.cells #[.int .i64 0, .int .i64 0, .int .i64 0, .int .i64 13] 82)).drew := ⟨_, rfl⟩
  rw [← hW]
  have hbW : Below w.heap.size w W := by rw [hW]; exact (by repeat (first | (with_reducible exact (Below.refl _ _)) | (with_reducible refine Below.drew ?_) | (with_reducible refine below_drewN ?_ _) | (with_reducible refine Below.setCell ?_ ?_ _; rotate_left; (first | omega | (simp <;> omega))) | (with_reducible refine Below.alloc ?_ ?_ _; rotate_left; (first | omega | (simp <;> omega)))))
  have hz : W.heap.size = w.heap.size + 2 := by rw [hW]; simp
  have x0 : W.cell? ⟨w.heap.size, 0, none⟩ = some (.int .i64 21) := by rw [hW, World.cell?_drew, cell_old _ _ _ _ (by simp), cell_new _ _ _ _ _ rfl]; rfl
  have x1 : W.cell? ⟨w.heap.size, 1, none⟩ = some (.int .i64 0) := by rw [hW, World.cell?_drew, cell_old _ _ _ _ (by simp), cell_new _ _ _ _ _ rfl]; rfl
  have x2 : W.cell? ⟨w.heap.size, 2, none⟩ = some (.int .i64 0) := by rw [hW, World.cell?_drew, cell_old _ _ _ _ (by simp), cell_new _ _ _ _ _ rfl]; rfl
  have x3 : W.cell? ⟨w.heap.size, 3, none⟩ = some (.int .i64 0) := by rw [hW, World.cell?_drew, cell_old _ _ _ _ (by simp), cell_new _ _ _ _ _ rfl]; rfl
  have x4 : W.cell? ⟨w.heap.size, 4, none⟩ = some (.int .i64 0) := by rw [hW, World.cell?_drew, cell_old _ _ _ _ (by simp), cell_new _ _ _ _ _ rfl]; rfl
  have y0 : W.cell? ⟨w.heap.size + 1, 0, none⟩ = some (.int .i64 0) := by rw [hW, World.cell?_drew, cell_new _ _ _ _ _ (by simp)]; rfl
  have y1 : W.cell? ⟨w.heap.size + 1, 1, none⟩ = some (.int .i64 0) := by rw [hW, World.cell?_drew, cell_new _ _ _ _ _ (by simp)]; rfl
  have y2 : W.cell? ⟨w.heap.size + 1, 2, none⟩ = some (.int .i64 0) := by rw [hW, World.cell?_drew, cell_new _ _ _ _ _ (by simp)]; rfl
  have y3 : W.cell? ⟨w.heap.size + 1, 3, none⟩ = some (.int .i64 13) := by rw [hW, World.cell?_drew, cell_new _ _ _ _ _ (by simp)]; rfl
  have HZ := Lib.hid hz
  have HRD := Lib.hid (hr.below hbW)
  have HC := Lib.hid (hc.below hbW)
  have hl0 : w.heap.size < W.heap.size := by omega
  have hl1 : w.heap.size + 1 < W.heap.size := by omega
  clear hW hz r0 r3 lr lc lt c0 c1 c2 c3 c4 t0 t1 t2 t3
  refine (right_0_0 rb ab 0 W HRD.out HC.out).mono ?_
  rintro e u1 ⟨rfl, hb'⟩
  have HRD := Lib.hid (HRD.out.below hb')
  have HC := Lib.hid (HC.out.below hb')
  have x0 := (belc hb' hl0 (o := 0)).trans x0
  have x1 := (belc hb' hl0 (o := 1)).trans x1
  have x2 := (belc hb' hl0 (o := 2)).trans x2
  have x3 := (belc hb' hl0 (o := 3)).trans x3
  have x4 := (belc hb' hl0 (o := 4)).trans x4
  have y0 := (belc hb' hl1 (o := 0)).trans y0
  have y1 := (belc hb' hl1 (o := 1)).trans y1
  have y2 := (belc hb' hl1 (o := 2)).trans y2
  have y3 := (belc hb' hl1 (o := 3)).trans y3
  have hl0 : w.heap.size < u1.heap.size := by have := hb'.size; omega
  have hl1 : w.heap.size + 1 < u1.heap.size := by have := hb'.size; omega
  have hbW : Below w.heap.size w u1 := hbW.trans (hb'.mono (by omega))
  clear hb' 
  go_wp2_with fail
  refine (right_0_0 rb ab 0 u1 HRD.out HC.out).mono ?_
  rintro e u2 ⟨rfl, hb'⟩
  have HRD := Lib.hid (HRD.out.below hb')
  have HC := Lib.hid (HC.out.below hb')
  have x0 := (belc hb' hl0 (o := 0)).trans x0
  have x1 := (belc hb' hl0 (o := 1)).trans x1
  have x2 := (belc hb' hl0 (o := 2)).trans x2
  have x3 := (belc hb' hl0 (o := 3)).trans x3
  have x4 := (belc hb' hl0 (o := 4)).trans x4
  have y0 := (belc hb' hl1 (o := 0)).trans y0
  have y1 := (belc hb' hl1 (o := 1)).trans y1
  have y2 := (belc hb' hl1 (o := 2)).trans y2
  have y3 := (belc hb' hl1 (o := 3)).trans y3
  have hl0 : w.heap.size < u2.heap.size := by have := hb'.size; omega
  have hl1 : w.heap.size + 1 < u2.heap.size := by have := hb'.size; omega
  have hbW : Below w.heap.size w u2 := hbW.trans (hb'.mono (by omega))
  clear hb' 
  go_wp2_with fail
  refine (right_0_0 rb ab 0 u2 HRD.out HC.out).mono ?_
  rintro e u3 ⟨rfl, hb'⟩
  have HRD := Lib.hid (HRD.out.below hb')
  have HC := Lib.hid (HC.out.below hb')
  have x0 := (belc hb' hl0 (o := 0)).trans x0
  have x1 := (belc hb' hl0 (o := 1)).trans x1
  have x2 := (belc hb' hl0 (o := 2)).trans x2
  have x3 := (belc hb' hl0 (o := 3)).trans x3
  have x4 := (belc hb' hl0 (o := 4)).trans x4
  have y0 := (belc hb' hl1 (o := 0)).trans y0
  have y1 := (belc hb' hl1 (o := 1)).trans y1
  have y2 := (belc hb' hl1 (o := 2)).trans y2
  have y3 := (belc hb' hl1 (o := 3)).trans y3
  have hl0 : w.heap.size < u3.heap.size := by have := hb'.size; omega
  have hl1 : w.heap.size + 1 < u3.heap.size := by have := hb'.size; omega
  have hbW : Below w.heap.size w u3 := hbW.trans (hb'.mono (by omega))
  clear hb' 
  go_wp2_with fail
  refine (right_13 rb ab u3 HRD.out HC.out).mono ?_
  rintro e u4 ⟨rfl, HR', hg'⟩
  have hrl := hr.lt
  have hbF : Below rb w u4 := (hbW.mono (by omega)).grown hg' (by omega) (by intro k hk; injection hk with hk; omega)
  have x0 := ((gcell hg').1 w.heap.size 0 hl0 (by intro e; injection e; omega)).trans x0
  go_wp2
  try go_quiet (fail)
  try go_wp2
  go_ret
  exact ⟨rfl, HR'.below (by repeat (first | (with_reducible exact (Below.refl _ _)) | (with_reducible refine Below.drew ?_) | (with_reducible refine below_drewN ?_ _) | (with_reducible refine Below.setCell ?_ ?_ _; rotate_left; (first | omega | (simp <;> omega))) | (with_reducible refine Below.alloc ?_ ?_ _; rotate_left; (first | omega | (simp <;> omega))))), (by repeat (first | (with_reducible exact hbF) | (with_reducible refine Below.drew ?_) | (with_reducible refine below_drewN ?_ _) | (with_reducible refine Below.setCell ?_ ?_ _; rotate_left; (first | omega | (simp <;> omega))) | (with_reducible refine Below.alloc ?_ ?_ _; rotate_left; (first | omega | (simp <;> omega)))))⟩

set_option maxRecDepth 100000 in
set_option maxHeartbeats 2000000 in
theorem look_1 (rb ab : Nat) (w : World) (hr : Rd w rb ab 1 1) (hc : C3 w ab) (ht : Tab w) (h0 : 0 < rb) (hab : ab < rb) :
    Calls Tryd.prog 38 #[.pointer (some ⟨rb, 0, none⟩)] w fun e w' => e = .returned (.bool true) ∧ Rd w' rb ab 1 1 ∧ Below rb w w' := by
  have r0 := hr.c0
  have r3 := hr.c3
  have lr := hr.lt
  have lc := hc.lt
  have lt := ht.lt
  have c0 := hc.c5
  have c1 := hc.c6
  have c2 := hc.c7
  have c3 := hc.c8
  have c4 := hc.c9
  have t0 := ht.t4
  have t1 := ht.t5
  have t2 := ht.t6
  have t3 := ht.t7
  go_enter Tryd.func38, Tryd.ntmps38
  go_wp2
  go_region
  go_wp2_with fail
  obtain ⟨W, hW⟩ : ∃ W, W = ((w.alloc (.cells #[.int .i64 1, .int .i64 1, .int .i64 0, .int .i64 0, .int .i64 3] 51)).alloc (.cells #[.int .i64 1, .int .i64 0, .int .i64 0, .int .i64 2] 82)).drew := ⟨_, rfl⟩
  rw [← hW]
  have hbW : Below w.heap.size w W := by rw [hW]; exact (by repeat (first | (with_reducible exact (Below.refl _ _)) | (with_reducible refine Below.drew ?_) | (with_reducible refine below_drewN ?_ _) | (with_reducible refine Below.setCell ?_ ?_ _; rotate_left; (first | omega | (simp <;> omega))) | (with_reducible refine Below.alloc ?_ ?_ _; rotate_left; (first | omega | (simp <;> omega)))))
  have hz : W.heap.size = w.heap.size + 2 := by rw [hW]; simp
  have x0 : W.cell? ⟨w.heap.size, 0, none⟩ = some (.int .i64 1) := by rw [hW, World.cell?_drew, cell_old _ _ _ _ (by simp), cell_new _ _ _ _ _ rfl]; rfl
  have x1 : W.cell? ⟨w.heap.size, 1, none⟩ = some (.int .i64 1) := by rw [hW, World.cell?_drew, cell_old _ _ _ _ (by simp), cell_new _ _ _ _ _ rfl]; rfl
  have x2 : W.cell? ⟨w.heap.size, 2, none⟩ = some (.int .i64 0) := by rw [hW, World.cell?_drew, cell_old _ _ _ _ (by simp), cell_new _ _ _ _ _ rfl]; rfl
  have x3 : W.cell? ⟨w.heap.size, 3, none⟩ = some (.int .i64 0) := by rw [hW, World.cell?_drew, cell_old _ _ _ _ (by simp), cell_new _ _ _ _ _ rfl]; rfl
  have x4 : W.cell? ⟨w.heap.size, 4, none⟩ = some (.int .i64 3) := by rw [hW, World.cell?_drew, cell_old _ _ _ _ (by simp), cell_new _ _ _ _ _ rfl]; rfl
  have y0 : W.cell? ⟨w.heap.size + 1, 0, none⟩ = some (.int .i64 1) := by rw [hW, World.cell?_drew, cell_new _ _ _ _ _ (by simp)]; rfl
  have y1 : W.cell? ⟨w.heap.size + 1, 1, none⟩ = some (.int .i64 0) := by rw [hW, World.cell?_drew, cell_new _ _ _ _ _ (by simp)]; rfl
  have y2 : W.cell? ⟨w.heap.size + 1, 2, none⟩ = some (.int .i64 0) := by rw [hW, World.cell?_drew, cell_new _ _ _ _ _ (by simp)]; rfl
  have y3 : W.cell? ⟨w.heap.size + 1, 3, none⟩ = some (.int .i64 2) := by rw [hW, World.cell?_drew, cell_new _ _ _ _ _ (by simp)]; rfl
  have HZ := Lib.hid hz
  have HRD := Lib.hid (hr.below hbW)
  have HC := Lib.hid (hc.below hbW)
  have hl0 : w.heap.size < W.heap.size := by omega
  have hl1 : w.heap.size + 1 < W.heap.size := by omega
  clear hW hz r0 r3 lr lc lt c0 c1 c2 c3 c4 t0 t1 t2 t3
  refine (right_1_1 rb ab 1 W HRD.out HC.out).mono ?_
  rintro e u1 ⟨rfl, hb'⟩
  have HRD := Lib.hid (HRD.out.below hb')
  have HC := Lib.hid (HC.out.below hb')
  have x0 := (belc hb' hl0 (o := 0)).trans x0
  have x1 := (belc hb' hl0 (o := 1)).trans x1
  have x2 := (belc hb' hl0 (o := 2)).trans x2
  have x3 := (belc hb' hl0 (o := 3)).trans x3
  have x4 := (belc hb' hl0 (o := 4)).trans x4
  have y0 := (belc hb' hl1 (o := 0)).trans y0
  have y1 := (belc hb' hl1 (o := 1)).trans y1
  have y2 := (belc hb' hl1 (o := 2)).trans y2
  have y3 := (belc hb' hl1 (o := 3)).trans y3
  have hl0 : w.heap.size < u1.heap.size := by have := hb'.size; omega
  have hl1 : w.heap.size + 1 < u1.heap.size := by have := hb'.size; omega
  have hbW : Below w.heap.size w u1 := hbW.trans (hb'.mono (by omega))
  clear hb' 
  go_wp2_with fail
  refine (right_0_1 rb ab 1 u1 HRD.out HC.out).mono ?_
  rintro e u2 ⟨rfl, hb'⟩
  have HRD := Lib.hid (HRD.out.below hb')
  have HC := Lib.hid (HC.out.below hb')
  have x0 := (belc hb' hl0 (o := 0)).trans x0
  have x1 := (belc hb' hl0 (o := 1)).trans x1
  have x2 := (belc hb' hl0 (o := 2)).trans x2
  have x3 := (belc hb' hl0 (o := 3)).trans x3
  have x4 := (belc hb' hl0 (o := 4)).trans x4
  have y0 := (belc hb' hl1 (o := 0)).trans y0
  have y1 := (belc hb' hl1 (o := 1)).trans y1
  have y2 := (belc hb' hl1 (o := 2)).trans y2
  have y3 := (belc hb' hl1 (o := 3)).trans y3
  have hl0 : w.heap.size < u2.heap.size := by have := hb'.size; omega
  have hl1 : w.heap.size + 1 < u2.heap.size := by have := hb'.size; omega
  have hbW : Below w.heap.size w u2 := hbW.trans (hb'.mono (by omega))
  clear hb' 
  go_wp2_with fail
  refine (right_0_1 rb ab 1 u2 HRD.out HC.out).mono ?_
  rintro e u3 ⟨rfl, hb'⟩
  have HRD := Lib.hid (HRD.out.below hb')
  have HC := Lib.hid (HC.out.below hb')
  have x0 := (belc hb' hl0 (o := 0)).trans x0
  have x1 := (belc hb' hl0 (o := 1)).trans x1
  have x2 := (belc hb' hl0 (o := 2)).trans x2
  have x3 := (belc hb' hl0 (o := 3)).trans x3
  have x4 := (belc hb' hl0 (o := 4)).trans x4
  have y0 := (belc hb' hl1 (o := 0)).trans y0
  have y1 := (belc hb' hl1 (o := 1)).trans y1
  have y2 := (belc hb' hl1 (o := 2)).trans y2
  have y3 := (belc hb' hl1 (o := 3)).trans y3
  have hl0 : w.heap.size < u3.heap.size := by have := hb'.size; omega
  have hl1 : w.heap.size + 1 < u3.heap.size := by have := hb'.size; omega
  have hbW : Below w.heap.size w u3 := hbW.trans (hb'.mono (by omega))
  clear hb' 
  go_wp2_with fail
  refine (right_2_1 rb ab 1 u3 HRD.out HC.out).mono ?_
  rintro e u4 ⟨rfl, hb'⟩
  have HRD := Lib.hid (HRD.out.below hb')
  have HC := Lib.hid (HC.out.below hb')
  have x0 := (belc hb' hl0 (o := 0)).trans x0
  have x1 := (belc hb' hl0 (o := 1)).trans x1
  have x2 := (belc hb' hl0 (o := 2)).trans x2
  have x3 := (belc hb' hl0 (o := 3)).trans x3
  have x4 := (belc hb' hl0 (o := 4)).trans x4
  have y0 := (belc hb' hl1 (o := 0)).trans y0
  have y1 := (belc hb' hl1 (o := 1)).trans y1
  have y2 := (belc hb' hl1 (o := 2)).trans y2
  have y3 := (belc hb' hl1 (o := 3)).trans y3
  have hl0 : w.heap.size < u4.heap.size := by have := hb'.size; omega
  have hl1 : w.heap.size + 1 < u4.heap.size := by have := hb'.size; omega
  have hbW : Below w.heap.size w u4 := hbW.trans (hb'.mono (by omega))
  clear hb' 
  go_wp2
  try go_quiet (fail)
  try go_wp2
  go_ret
  have hq := hbW.mono (B' := rb) (by have := hr.lt; omega)
  exact ⟨rfl, HRD.out.below (by repeat (first | (with_reducible exact (Below.refl _ _)) | (with_reducible refine Below.drew ?_) | (with_reducible refine below_drewN ?_ _) | (with_reducible refine Below.setCell ?_ ?_ _; rotate_left; (first | omega | (simp <;> omega))) | (with_reducible refine Below.alloc ?_ ?_ _; rotate_left; (first | omega | (simp <;> omega))))), (by repeat (first | (with_reducible exact hq) | (with_reducible refine Below.drew ?_) | (with_reducible refine below_drewN ?_ _) | (with_reducible refine Below.setCell ?_ ?_ _; rotate_left; (first | omega | (simp <;> omega))) | (with_reducible refine Below.alloc ?_ ?_ _; rotate_left; (first | omega | (simp <;> omega)))))⟩

set_option maxRecDepth 100000 in
set_option maxHeartbeats 2000000 in
theorem look_2 (rb ab : Nat) (w : World) (hr : Rd w rb ab 2 1) (hc : C3 w ab) (ht : Tab w) (h0 : 0 < rb) (hab : ab < rb) :
    Calls Tryd.prog 38 #[.pointer (some ⟨rb, 0, none⟩)] w fun e w' => e = .returned (.bool true) ∧ Rd w' rb ab 2 1 ∧ Below rb w w' := by
  have r0 := hr.c0
  have r3 := hr.c3
  have lr := hr.lt
  have lc := hc.lt
  have lt := ht.lt
  have c0 := hc.c10
  have c1 := hc.c11
  have c2 := hc.c12
  have c3 := hc.c13
  have c4 := hc.c14
  have t0 := ht.t56
  have t1 := ht.t57
  have t2 := ht.t58
  have t3 := ht.t59
  go_enter Tryd.func38, Tryd.ntmps38
  go_wp2
  go_region
  go_wp2_with fail
  obtain ⟨W, hW⟩ : ∃ W, W = ((w.alloc (.cells #[.int .i64 14, .int .i64 1, .int .i64 0, .int .i64 0, .int .i64 0] 51)).alloc (.cells #[.int .i64 1, .int .i64 0, .int .i64 0, .int .i64 0] 82)).drew := ⟨_, rfl⟩
  rw [← hW]
  have hbW : Below w.heap.size w W := by rw [hW]; exact (by repeat (first | (with_reducible exact (Below.refl _ _)) | (with_reducible refine Below.drew ?_) | (with_reducible refine below_drewN ?_ _) | (with_reducible refine Below.setCell ?_ ?_ _; rotate_left; (first | omega | (simp <;> omega))) | (with_reducible refine Below.alloc ?_ ?_ _; rotate_left; (first | omega | (simp <;> omega)))))
  have hz : W.heap.size = w.heap.size + 2 := by rw [hW]; simp
  have x0 : W.cell? ⟨w.heap.size, 0, none⟩ = some (.int .i64 14) := by rw [hW, World.cell?_drew, cell_old _ _ _ _ (by simp), cell_new _ _ _ _ _ rfl]; rfl
  have x1 : W.cell? ⟨w.heap.size, 1, none⟩ = some (.int .i64 1) := by rw [hW, World.cell?_drew, cell_old _ _ _ _ (by simp), cell_new _ _ _ _ _ rfl]; rfl
  have x2 : W.cell? ⟨w.heap.size, 2, none⟩ = some (.int .i64 0) := by rw [hW, World.cell?_drew, cell_old _ _ _ _ (by simp), cell_new _ _ _ _ _ rfl]; rfl
  have x3 : W.cell? ⟨w.heap.size, 3, none⟩ = some (.int .i64 0) := by rw [hW, World.cell?_drew, cell_old _ _ _ _ (by simp), cell_new _ _ _ _ _ rfl]; rfl
  have x4 : W.cell? ⟨w.heap.size, 4, none⟩ = some (.int .i64 0) := by rw [hW, World.cell?_drew, cell_old _ _ _ _ (by simp), cell_new _ _ _ _ _ rfl]; rfl
  have y0 : W.cell? ⟨w.heap.size + 1, 0, none⟩ = some (.int .i64 1) := by rw [hW, World.cell?_drew, cell_new _ _ _ _ _ (by simp)]; rfl
  have y1 : W.cell? ⟨w.heap.size + 1, 1, none⟩ = some (.int .i64 0) := by rw [hW, World.cell?_drew, cell_new _ _ _ _ _ (by simp)]; rfl
  have y2 : W.cell? ⟨w.heap.size + 1, 2, none⟩ = some (.int .i64 0) := by rw [hW, World.cell?_drew, cell_new _ _ _ _ _ (by simp)]; rfl
  have y3 : W.cell? ⟨w.heap.size + 1, 3, none⟩ = some (.int .i64 0) := by rw [hW, World.cell?_drew, cell_new _ _ _ _ _ (by simp)]; rfl
  have HZ := Lib.hid hz
  have HRD := Lib.hid (hr.below hbW)
  have HC := Lib.hid (hc.below hbW)
  have hl0 : w.heap.size < W.heap.size := by omega
  have hl1 : w.heap.size + 1 < W.heap.size := by omega
  clear hW hz r0 r3 lr lc lt c0 c1 c2 c3 c4 t0 t1 t2 t3
  refine (right_1_2 rb ab 1 W HRD.out HC.out).mono ?_
  rintro e u1 ⟨rfl, hb'⟩
  have HRD := Lib.hid (HRD.out.below hb')
  have HC := Lib.hid (HC.out.below hb')
  have x0 := (belc hb' hl0 (o := 0)).trans x0
  have x1 := (belc hb' hl0 (o := 1)).trans x1
  have x2 := (belc hb' hl0 (o := 2)).trans x2
  have x3 := (belc hb' hl0 (o := 3)).trans x3
  have x4 := (belc hb' hl0 (o := 4)).trans x4
  have y0 := (belc hb' hl1 (o := 0)).trans y0
  have y1 := (belc hb' hl1 (o := 1)).trans y1
  have y2 := (belc hb' hl1 (o := 2)).trans y2
  have y3 := (belc hb' hl1 (o := 3)).trans y3
  have hl0 : w.heap.size < u1.heap.size := by have := hb'.size; omega
  have hl1 : w.heap.size + 1 < u1.heap.size := by have := hb'.size; omega
  have hbW : Below w.heap.size w u1 := hbW.trans (hb'.mono (by omega))
  clear hb' 
  go_wp2_with fail
  refine (right_0_2 rb ab 1 u1 HRD.out HC.out).mono ?_
  rintro e u2 ⟨rfl, hb'⟩
  have HRD := Lib.hid (HRD.out.below hb')
  have HC := Lib.hid (HC.out.below hb')
  have x0 := (belc hb' hl0 (o := 0)).trans x0
  have x1 := (belc hb' hl0 (o := 1)).trans x1
  have x2 := (belc hb' hl0 (o := 2)).trans x2
  have x3 := (belc hb' hl0 (o := 3)).trans x3
  have x4 := (belc hb' hl0 (o := 4)).trans x4
  have y0 := (belc hb' hl1 (o := 0)).trans y0
  have y1 := (belc hb' hl1 (o := 1)).trans y1
  have y2 := (belc hb' hl1 (o := 2)).trans y2
  have y3 := (belc hb' hl1 (o := 3)).trans y3
  have hl0 : w.heap.size < u2.heap.size := by have := hb'.size; omega
  have hl1 : w.heap.size + 1 < u2.heap.size := by have := hb'.size; omega
  have hbW : Below w.heap.size w u2 := hbW.trans (hb'.mono (by omega))
  clear hb' 
  go_wp2_with fail
  refine (right_0_2 rb ab 1 u2 HRD.out HC.out).mono ?_
  rintro e u3 ⟨rfl, hb'⟩
  have HRD := Lib.hid (HRD.out.below hb')
  have HC := Lib.hid (HC.out.below hb')
  have x0 := (belc hb' hl0 (o := 0)).trans x0
  have x1 := (belc hb' hl0 (o := 1)).trans x1
  have x2 := (belc hb' hl0 (o := 2)).trans x2
  have x3 := (belc hb' hl0 (o := 3)).trans x3
  have x4 := (belc hb' hl0 (o := 4)).trans x4
  have y0 := (belc hb' hl1 (o := 0)).trans y0
  have y1 := (belc hb' hl1 (o := 1)).trans y1
  have y2 := (belc hb' hl1 (o := 2)).trans y2
  have y3 := (belc hb' hl1 (o := 3)).trans y3
  have hl0 : w.heap.size < u3.heap.size := by have := hb'.size; omega
  have hl1 : w.heap.size + 1 < u3.heap.size := by have := hb'.size; omega
  have hbW : Below w.heap.size w u3 := hbW.trans (hb'.mono (by omega))
  clear hb' 
  go_wp2_with fail
  refine (right_0_2 rb ab 1 u3 HRD.out HC.out).mono ?_
  rintro e u4 ⟨rfl, hb'⟩
  have HRD := Lib.hid (HRD.out.below hb')
  have HC := Lib.hid (HC.out.below hb')
  have x0 := (belc hb' hl0 (o := 0)).trans x0
  have x1 := (belc hb' hl0 (o := 1)).trans x1
  have x2 := (belc hb' hl0 (o := 2)).trans x2
  have x3 := (belc hb' hl0 (o := 3)).trans x3
  have x4 := (belc hb' hl0 (o := 4)).trans x4
  have y0 := (belc hb' hl1 (o := 0)).trans y0
  have y1 := (belc hb' hl1 (o := 1)).trans y1
  have y2 := (belc hb' hl1 (o := 2)).trans y2
  have y3 := (belc hb' hl1 (o := 3)).trans y3
  have hl0 : w.heap.size < u4.heap.size := by have := hb'.size; omega
  have hl1 : w.heap.size + 1 < u4.heap.size := by have := hb'.size; omega
  have hbW : Below w.heap.size w u4 := hbW.trans (hb'.mono (by omega))
  clear hb' 
  go_wp2
  try go_quiet (fail)
  try go_wp2
  go_ret
  have hq := hbW.mono (B' := rb) (by have := hr.lt; omega)
  exact ⟨rfl, HRD.out.below (by repeat (first | (with_reducible exact (Below.refl _ _)) | (with_reducible refine Below.drew ?_) | (with_reducible refine below_drewN ?_ _) | (with_reducible refine Below.setCell ?_ ?_ _; rotate_left; (first | omega | (simp <;> omega))) | (with_reducible refine Below.alloc ?_ ?_ _; rotate_left; (first | omega | (simp <;> omega))))), (by repeat (first | (with_reducible exact hq) | (with_reducible refine Below.drew ?_) | (with_reducible refine below_drewN ?_ _) | (with_reducible refine Below.setCell ?_ ?_ _; rotate_left; (first | omega | (simp <;> omega))) | (with_reducible refine Below.alloc ?_ ?_ _; rotate_left; (first | omega | (simp <;> omega)))))⟩

end Go.Proofs.YtbmembmiejmoaaaDoor
