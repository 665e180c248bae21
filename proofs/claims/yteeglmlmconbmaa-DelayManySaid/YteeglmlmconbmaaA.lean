/- The search for a pair, of the program. -/
import Derived.Test.YteeglmlmconbmaaKit2
import Derived.Test.YteeglmlmconbmaaPlain
import Derived.Deep.RegionHeld3
namespace Go.Proofs.Yteeglmlmconbmaa
open Go.RowKit

theorem nan_any (x : Int) (w : World) : Calls Try.prog 25 #[.int .i64 x] w fun e w' => e = .returned (.bool false) ∧ Below w.heap.size w w' := by
  go_enter Try.func25, Try.ntmps25
  go_wp2
  go_ret
  exact ⟨by simp, Below.refl _ _⟩

def cmpI (x y : Int) : Int := if x < y then -1 else if y < x then 1 else 0
theorem cmp_any (x y : Int) (w : World) : Calls Try.prog 23 #[.int .i64 x, .int .i64 y] w fun e w' => e = .returned (.int .i64 (cmpI x y)) ∧ Below w.heap.size w w' := by
  by_cases h1 : x < y
  · have HE := Lib.hid (show cmpI x y = -1 by simp [cmpI, h1])
    go_enter Try.func23, Try.ntmps23
    go_wp2_with fail
    refine (nan_any x _).mono ?_
    rintro e w1 ⟨rfl, hb1⟩
    go_wp2_with fail
    refine (nan_any y _).mono ?_
    rintro e w2 ⟨rfl, hb2⟩
    have hb := hb1.trans (hb2.mono hb1.size)
    go_wp2
    go_ret
    exact ⟨by rw [HE.out]; rfl, hb⟩
  · by_cases h2 : y < x
    · have HE := Lib.hid (show cmpI x y = 1 by simp [cmpI, h1, h2])
      go_enter Try.func23, Try.ntmps23
      go_wp2_with fail
      refine (nan_any x _).mono ?_
      rintro e w1 ⟨rfl, hb1⟩
      go_wp2_with fail
      refine (nan_any y _).mono ?_
      rintro e w2 ⟨rfl, hb2⟩
      have hb := hb1.trans (hb2.mono hb1.size)
      go_wp2
      go_ret
      exact ⟨by rw [HE.out]; rfl, hb⟩
    · have HE := Lib.hid (show cmpI x y = 0 by simp [cmpI, h1, h2])
      go_enter Try.func23, Try.ntmps23
      go_wp2_with fail
      refine (nan_any x _).mono ?_
      rintro e w1 ⟨rfl, hb1⟩
      go_wp2_with fail
      refine (nan_any y _).mono ?_
      rintro e w2 ⟨rfl, hb2⟩
      have hb := hb1.trans (hb2.mono hb1.size)
      go_wp2
      go_ret
      exact ⟨by rw [HE.out]; rfl, hb⟩


def orI (x y : Int) : Int := if x = 0 then y else x
set_option maxHeartbeats 400000 in
theorem or_any (b : Nat) (x y : Int) (w : World) (hb : b < w.heap.size) (h0 : w.cell? ⟨b, 0, none⟩ = some (.int .i64 x)) (h1 : w.cell? ⟨b, 1, none⟩ = some (.int .i64 y)) :
    Calls Try.prog 22 #[.slice (some ⟨b, 0, none⟩) 2 2] w fun e w' => e = .returned (.int .i64 (orI x y)) ∧ Below w.heap.size w w' := by
  go_enter Try.func22, Try.ntmps22
  go_wp2_with fail
  go_loop [8] (fun i => ∃ k : Nat, k ≤ 2 ∧ i = .int .i64 k ∧ (1 ≤ k → x = 0) ∧ (2 ≤ k → y = 0)) (fun i => 2 - (intOf i).toNat)
  case atStart => exact ⟨0, by omega, rfl, by omega, by omega⟩
  case round =>
    obtain ⟨k, hk, rfl, hx, hy⟩ := hrel
    have HX := Lib.hid hx
    have HY := Lib.hid hy
    clear hx hy
    have hk3 : k = 0 ∨ k = 1 ∨ k = 2 := by omega
    rcases hk3 with rfl | rfl | rfl
    · by_cases hx0 : x = 0
      · have g : (x != 0) = false := by simpa using hx0
        have HX0 := Lib.hid hx0
        clear hx0
        go_wp2
        go_round
        case rel => exact ⟨1, by omega, by go_num, fun _ => HX0.out, by omega⟩
        case measure => simp [intOf]
      · have g : (x != 0) = true := by simpa using hx0
        have HO := Lib.hid (show orI x y = x by simp [orI, hx0])
        clear hx0
        go_wp2
        go_ret
        exact ⟨by rw [HO.out]; rfl, Below.refl _ _⟩
    · by_cases hy0 : y = 0
      · have g : (y != 0) = false := by simpa using hy0
        have HY0 := Lib.hid hy0
        clear hy0
        go_wp2
        go_round
        case rel => exact ⟨2, by omega, by go_num, fun _ => HX.out (by omega), fun _ => HY0.out⟩
        case measure => simp [intOf]
      · have g : (y != 0) = true := by simpa using hy0
        have HO := Lib.hid (show orI x y = y by simp [orI, HX.out (by omega)])
        clear hy0
        go_wp2
        go_ret
        exact ⟨by rw [HO.out]; rfl, Below.refl _ _⟩
    · have HO := Lib.hid (show orI x y = 0 by simp [orI, HX.out (by omega), HY.out (by omega)])
      go_wp2
      go_ret
      exact ⟨by rw [HO.out]; rfl, Below.refl _ _⟩

def cmpP (x : Pr) (a b : Int) : Int := orI (cmpI x.a a) (cmpI x.b b)
set_option maxHeartbeats 1000000 in
theorem compare_any (x : Pr) (a b k : Int) (w : World) : Calls Try.prog 18 #[.agg #[.int .i64 x.a, .int .i64 x.b, .int .i64 x.cnt], .agg #[.int .i64 a, .int .i64 b, .int .i64 k]] w fun e w' => e = .returned (.int .i64 (cmpP x a b)) ∧ Below w.heap.size w w' := by
  obtain ⟨W, hW⟩ : ∃ W, W = (w.alloc (.cells #[.int .i64 x.a, .int .i64 x.b, .int .i64 x.cnt] 28)).alloc (.cells #[.int .i64 a, .int .i64 b, .int .i64 k] 28) := ⟨_, rfl⟩
  have hbW : Below w.heap.size w W := by rw [hW]; exact (by repeat (first | (with_reducible exact (Below.refl _ _)) | (with_reducible refine Below.drew ?_) | (with_reducible refine below_drewN ?_ _) | (with_reducible refine Below.setCell ?_ ?_ _; rotate_left; (first | omega | (simp <;> omega))) | (with_reducible refine Below.alloc ?_ ?_ _; rotate_left; (first | omega | (simp <;> omega)))))
  have hz : W.heap.size = w.heap.size + 2 := by rw [hW]; simp
  have p0 : W.cell? ⟨w.heap.size, 0, none⟩ = some (.int .i64 x.a) := (by rw [hW, cell_old _ _ _ _ (by simp <;> omega), cell_new _ _ _ _ _ (by simp <;> omega)]; rfl)
  have p1 : W.cell? ⟨w.heap.size, 1, none⟩ = some (.int .i64 x.b) := (by rw [hW, cell_old _ _ _ _ (by simp <;> omega), cell_new _ _ _ _ _ (by simp <;> omega)]; rfl)
  have q0 : W.cell? ⟨w.heap.size + 1, 0, none⟩ = some (.int .i64 a) := (by rw [hW, cell_new _ _ _ _ _ (by simp <;> omega)]; rfl)
  have q1 : W.cell? ⟨w.heap.size + 1, 1, none⟩ = some (.int .i64 b) := (by rw [hW, cell_new _ _ _ _ _ (by simp <;> omega)]; rfl)
  have hl0 : w.heap.size < W.heap.size := by omega
  have hl1 : w.heap.size + 1 < W.heap.size := by omega
  go_enter Try.func18, Try.ntmps18
  go_wp2_with fail
  rw [← hW]
  clear hW hz
  go_region_held3 (fun w' => w'.cell? ⟨w.heap.size, 0, none⟩ = some (.int .i64 x.a) ∧ w'.cell? ⟨w.heap.size, 1, none⟩ = some (.int .i64 x.b) ∧ w'.cell? ⟨w.heap.size + 1, 0, none⟩ = some (.int .i64 a) ∧ w'.cell? ⟨w.heap.size + 1, 1, none⟩ = some (.int .i64 b))
    (first | exact ⟨p0, p1, q0, q1⟩ | exact ⟨p01, p11, q01, q11⟩ | exact ⟨p02, p12, q02, q12⟩ | exact ⟨p04, p14, q04, q14⟩ | exact ⟨p03 _, p13 _, q03 _, q13 _⟩)
    (first
      | (go_at_call_of 23 (Value.int IntKind.i64 x.a); refine (cmp_any x.a a W.drew).mono ?_; rintro e w1 ⟨rfl, hb1⟩; have hb1 : Below W.heap.size W w1 := (Below.drew (Below.refl _ _)).trans hb1; have p01 := (belc hb1 hl0).trans p0; have p11 := (belc hb1 hl0).trans p1; have q01 := (belc hb1 hl1).trans q0; have q11 := (belc hb1 hl1).trans q1)
      | (go_at_call_of 23 (Value.int IntKind.i64 x.b); refine (cmp_any x.b b w1).mono ?_; rintro e w2 ⟨rfl, hb2⟩; have hz1 := hb1.size; have hb2 : Below W.heap.size W w2 := hb1.trans (hb2.mono hz1); have p02 := (belc hb2 hl0).trans p0; have p12 := (belc hb2 hl0).trans p1; have q02 := (belc hb2 hl1).trans q0; have q12 := (belc hb2 hl1).trans q1; have hl02 : w.heap.size < w2.heap.size := Nat.lt_of_lt_of_le hl0 hb2.size; have hl12 : w.heap.size + 1 < w2.heap.size := Nat.lt_of_lt_of_le hl1 hb2.size; have p03 := fun o => (cell_old w2 o _ _ hl02).trans p02; have p13 := fun o => (cell_old w2 o _ _ hl02).trans p12; have q03 := fun o => (cell_old w2 o _ _ hl12).trans q02; have q13 := fun o => (cell_old w2 o _ _ hl12).trans q12)
      | (go_at_call 22; refine (or_any w2.heap.size (cmpI x.a a) (cmpI x.b b) _ (by simp) (by simp) (by simp)).mono ?_; rintro e w4 ⟨rfl, hb4⟩; have hz2 := hb2.size; have hb4 : Below W.heap.size W w4 := (hb2.alloc hz2 _).trans (hb4.mono (by simp; omega)); have p04 := (belc hb4 hl0).trans p0; have p14 := (belc hb4 hl0).trans p1; have q04 := (belc hb4 hl1).trans q0; have q14 := (belc hb4 hl1).trans q1))
  all_goals
    go_wp2
    go_ret
    exact ⟨rfl, hbW.trans (hb4.mono hbW.size)⟩
end Go.Proofs.Yteeglmlmconbmaa
