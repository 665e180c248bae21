/- The code of the sanity check is valid; a task begins at 1; there is no ask at 1. -/
import Derived.Test.YtbmembmiejmoaaaDoorH
namespace Go.Proofs.YtbmembmiejmoaaaDoor
open Go.RowKit

set_option maxRecDepth 100000 in
theorem index_any (b : Nat) (w : World) (h0 : w.cell? ⟨b, 0, none⟩ = some (.int .i64 14)) :
    Calls Tryd.prog 39 #[.slice (some ⟨b, 0, none⟩) 3 3, .int .i64 14] w fun e w' => e = .returned (.int .i64 0) ∧ Below w.heap.size w w' := by
  go_enter Tryd.func39, Tryd.ntmps39
  go_wp2_with fail
  go_loop [8] (fun i => i = .int .i64 0) (fun _ => 0)
  case atStart => rfl
  case round =>
    subst hrel
    go_wp2
    go_ret
    exact ⟨rfl, Below.refl _ _⟩
theorem contains_any (b : Nat) (w : World) (h0 : w.cell? ⟨b, 0, none⟩ = some (.int .i64 14)) :
    Calls Tryd.prog 37 #[.slice (some ⟨b, 0, none⟩) 3 3, .int .i64 14] w fun e w' => e = .returned (.bool true) ∧ Below w.heap.size w w' := by
  go_enter Tryd.func37, Tryd.ntmps37
  go_wp2_with fail
  refine (index_any b w h0).mono ?_
  rintro e w1 ⟨rfl, hb1⟩
  go_wp2
  go_ret
  exact ⟨rfl, hb1⟩

set_option maxRecDepth 100000 in
set_option maxHeartbeats 2000000 in
theorem valid_any (ab : Nat) (w : World) (hc : C3 w ab) (ht : Tab w) :
    Calls Tryd.prog 32 #[.agg #[.slice (some ⟨ab, 0, none⟩) 3 3, .int .i64 0, .int .i64 1]] w fun e w' => e = .returned (.bool true) ∧ Below w.heap.size w w' := by
  go_enter Tryd.func32, Tryd.ntmps32
  go_wp2_with fail
  obtain ⟨W, hW⟩ : ∃ W, W = w.alloc (.cells #[.slice (some ⟨ab, 0, none⟩) 3 3, .int .i64 0, .int .i64 1] 54) := ⟨_, rfl⟩
  rw [← hW]
  have hbW : Below w.heap.size w W := by rw [hW]; exact (Below.refl _ _).alloc (Nat.le_refl _) _
  have hz : W.heap.size = w.heap.size + 1 := by rw [hW]; simp
  have p0 : W.cell? ⟨w.heap.size, 0, none⟩ = some (.slice (some ⟨ab, 0, none⟩) 3 3) := by rw [hW, cell_new _ _ _ _ _ rfl]; rfl
  have p1 : W.cell? ⟨w.heap.size, 1, none⟩ = some (.int .i64 0) := by rw [hW, cell_new _ _ _ _ _ rfl]; rfl
  have p2 : W.cell? ⟨w.heap.size, 2, none⟩ = some (.int .i64 1) := by rw [hW, cell_new _ _ _ _ _ rfl]; rfl
  have hl : w.heap.size < W.heap.size := by omega
  have HC := Lib.hid (hc.below hbW)
  clear hW hz
  refine (within_yes 0 0 64 W (by omega) (by omega)).mono ?_
  rintro e u1 ⟨rfl, hb1⟩
  have p0 := (belc hb1 hl).trans p0
  have p1 := (belc hb1 hl).trans p1
  have p2 := (belc hb1 hl).trans p2
  have hl : w.heap.size < u1.heap.size := by have := hb1.size; omega
  have HC := Lib.hid (HC.out.below hb1)
  have hbW := hbW.trans (hb1.mono (by omega))
  clear hb1
  go_wp2_with fail
  refine (mark_0 ab u1 HC.out).mono ?_
  rintro e u2 ⟨rfl, hb1⟩
  have p0 := (belc hb1 hl).trans p0
  have p1 := (belc hb1 hl).trans p1
  have p2 := (belc hb1 hl).trans p2
  have hl : w.heap.size < u2.heap.size := by have := hb1.size; omega
  have HC := Lib.hid (HC.out.below hb1)
  have hbW := hbW.trans (hb1.mono (by omega))
  clear hb1
  have c10 := HC.out.c10
  have lc := HC.out.lt
  go_wp2_with fail
  obtain ⟨W3, hW3⟩ : ∃ W3, W3 = u2.alloc (.cells #[.int .i64 14, .int .i64 16, .int .i64 11] 3) := ⟨_, rfl⟩
  rw [← hW3]
  have hb1 : Below u2.heap.size u2 W3 := by rw [hW3]; exact (Below.refl _ _).alloc (Nat.le_refl _) _
  have q0 : W3.cell? ⟨u2.heap.size, 0, none⟩ = some (.int .i64 14) := by rw [hW3, cell_new _ _ _ _ _ rfl]; rfl
  have p0 := (belc hb1 hl).trans p0
  have p1 := (belc hb1 hl).trans p1
  have p2 := (belc hb1 hl).trans p2
  have hl3 : w.heap.size < W3.heap.size := by have := hb1.size; omega
  have HC := Lib.hid (HC.out.below hb1)
  have hbW := hbW.trans (hb1.mono (by omega))
  clear hW3 hb1 c10 lc
  refine (contains_any u2.heap.size W3 q0).mono ?_
  rintro e u4 ⟨rfl, hb1⟩
  have p0 := (belc hb1 hl3).trans p0
  have p1 := (belc hb1 hl3).trans p1
  have p2 := (belc hb1 hl3).trans p2
  have hl : w.heap.size < u4.heap.size := by have := hb1.size; omega
  have HC := Lib.hid (HC.out.below hb1)
  have hbW := hbW.trans (hb1.mono (by omega))
  have HT := Lib.hid (ht.below hbW)
  clear hb1 q0 hl3
  go_wp2_with fail
  obtain ⟨W5, hW5⟩ : ∃ W5, W5 = u4.alloc (.cells #[.slice (some ⟨ab, 0, none⟩) 3 3, .int .i64 0, .int .i64 1, .int .i64 0, .int .i64 0] 79) := ⟨_, rfl⟩
  have hz5 : W5.heap.size = u4.heap.size + 1 := by rw [hW5]; simp
  have hbx : Below u4.heap.size u4 W5 := by rw [hW5]; exact (Below.refl _ _).alloc (Nat.le_refl _) _
  have HR : Hid (Rd W5 u4.heap.size ab 0 0) := by
    rw [hW5]
    exact ⟨by simp, by rw [cell_new _ _ _ _ _ rfl]; rfl, by rw [cell_new _ _ _ _ _ rfl]; rfl, by rw [cell_new _ _ _ _ _ rfl]; rfl, by rw [cell_new _ _ _ _ _ rfl]; rfl, by rw [cell_new _ _ _ _ _ rfl]; rfl, fun j => frozen_new _ _ _ _ _ rfl⟩
  rw [← hW5]
  have HC5 := Lib.hid (HC.out.below hbx)
  have HT5 := Lib.hid (HT.out.below hbx)
  have p2 := (belc hbx hl).trans p2
  have hab4 : ab < u4.heap.size := HC.out.lt
  have h04 : 0 < u4.heap.size := HT.out.lt
  clear hW5 HC HT p0 p1
  go_loopw [39] (fun i wr => ∃ k : Nat, k ≤ 3 ∧ i = .int .i64 k ∧ Hid (∃ a : Int, Rd wr u4.heap.size ab a (if k = 0 then 0 else 1)) ∧ Below u4.heap.size u4 wr) (fun i _ => 3 - (intOf i).toNat)
  case atStart => exact ⟨0, by omega, rfl, Lib.hid ⟨0, HR.out⟩, hbx⟩
  case round =>
    obtain ⟨k, hk, rfl, hR, hb⟩ := hrel
    have hcr : C3 wr ab := ⟨by have := hb.size; omega, (belc hb hab4).trans ((belc hbx hab4).symm.trans HC5.out.c0), (belc hb hab4).trans ((belc hbx hab4).symm.trans HC5.out.c1), (belc hb hab4).trans ((belc hbx hab4).symm.trans HC5.out.c2), (belc hb hab4).trans ((belc hbx hab4).symm.trans HC5.out.c3), (belc hb hab4).trans ((belc hbx hab4).symm.trans HC5.out.c4), (belc hb hab4).trans ((belc hbx hab4).symm.trans HC5.out.c5), (belc hb hab4).trans ((belc hbx hab4).symm.trans HC5.out.c6), (belc hb hab4).trans ((belc hbx hab4).symm.trans HC5.out.c7), (belc hb hab4).trans ((belc hbx hab4).symm.trans HC5.out.c8), (belc hb hab4).trans ((belc hbx hab4).symm.trans HC5.out.c9), (belc hb hab4).trans ((belc hbx hab4).symm.trans HC5.out.c10), (belc hb hab4).trans ((belc hbx hab4).symm.trans HC5.out.c11), (belc hb hab4).trans ((belc hbx hab4).symm.trans HC5.out.c12), (belc hb hab4).trans ((belc hbx hab4).symm.trans HC5.out.c13), (belc hb hab4).trans ((belc hbx hab4).symm.trans HC5.out.c14)⟩
    have htr : Tab wr := ht.below (hbW.trans (hb.mono (by omega)))
    have HCR := Lib.hid hcr
    have HTR := Lib.hid htr
    clear hcr htr
    have hlr : w.heap.size < wr.heap.size := by have := hb.size; omega
    by_cases hlt : k < 3
    · obtain ⟨a, ha⟩ := hR.out
      have HA := Lib.hid ha
      have r3 := ha.c3
      have rf := ha.fr 3
      have lr := ha.lt
      have hbs : Below u4.heap.size u4 (wr.setCell ⟨u4.heap.size, 3, none⟩ (.int .i64 k)) := hb.setCell (by simp) _
      clear ha hR
      have hk3 : k = 0 ∨ k = 1 ∨ k = 2 := by omega
      have hz0 : (wr.setCell ⟨u4.heap.size, 3, none⟩ (.int .i64 k)).heap.size = wr.heap.size := by simp
      have HCS : Hid (C3 (wr.setCell ⟨u4.heap.size, 3, none⟩ (.int .i64 k)) ab) := by
        have hg := grown_set wr ⟨u4.heap.size, 3, none⟩ (.int .i64 k)
        have f : ∀ o, (wr.setCell ⟨u4.heap.size, 3, none⟩ (.int .i64 k)).cell? ⟨ab, o, none⟩ = wr.cell? ⟨ab, o, none⟩ := fun o => (gcell hg).1 ab o HCR.out.lt (by intro e; injection e with e; have e' : ab = u4.heap.size := e; omega)
        exact ⟨by rw [hz0]; exact HCR.out.lt, (f _).trans HCR.out.c0, (f _).trans HCR.out.c1, (f _).trans HCR.out.c2, (f _).trans HCR.out.c3, (f _).trans HCR.out.c4, (f _).trans HCR.out.c5, (f _).trans HCR.out.c6, (f _).trans HCR.out.c7, (f _).trans HCR.out.c8, (f _).trans HCR.out.c9, (f _).trans HCR.out.c10, (f _).trans HCR.out.c11, (f _).trans HCR.out.c12, (f _).trans HCR.out.c13, (f _).trans HCR.out.c14⟩
      have HTS : Hid (Tab (wr.setCell ⟨u4.heap.size, 3, none⟩ (.int .i64 k))) := ht.below (hbW.trans (hbs.mono (by omega)))
      rcases hk3 with rfl | rfl | rfl
      · have hl0 := look_0 u4.heap.size ab _ (HA.out.set3 0) HCS.out HTS.out h04 hab4
        have HL0 := Lib.hid hl0
        clear hl0 HCS HTS hz0
        go_wp2_with fail
        refine HL0.out.mono ?_
        rintro e v1 ⟨rfl, hr', hb'⟩
        have HR' := Lib.hid hr'
        clear hr'
        go_wp2
        go_roundw
        case rel => exact ⟨1, by omega, by go_num, Lib.hid ⟨_, HR'.out⟩, hbs.trans hb'⟩
        case measure => simp [intOf]
      · have hl0 := look_1 u4.heap.size ab _ (HA.out.set3 1) HCS.out HTS.out h04 hab4
        have HL0 := Lib.hid hl0
        clear hl0 HCS HTS hz0
        go_wp2_with fail
        refine HL0.out.mono ?_
        rintro e v1 ⟨rfl, hr', hb'⟩
        have HR' := Lib.hid hr'
        clear hr'
        go_wp2
        go_roundw
        case rel => exact ⟨2, by omega, by go_num, Lib.hid ⟨_, HR'.out⟩, hbs.trans hb'⟩
        case measure => simp [intOf]
      · have hl0 := look_2 u4.heap.size ab _ (HA.out.set3 2) HCS.out HTS.out h04 hab4
        have HL0 := Lib.hid hl0
        clear hl0 HCS HTS hz0
        go_wp2_with fail
        refine HL0.out.mono ?_
        rintro e v1 ⟨rfl, hr', hb'⟩
        have HR' := Lib.hid hr'
        clear hr'
        go_wp2
        go_roundw
        case rel => exact ⟨3, by omega, by go_num, Lib.hid ⟨_, HR'.out⟩, hbs.trans hb'⟩
        case measure => simp [intOf]
    · obtain rfl : k = 3 := by omega
      obtain ⟨a, ha⟩ := hR.out
      have r4 : wr.cell? ⟨u4.heap.size, 4, none⟩ = some (.int .i64 1) := ha.c4
      have p2' : wr.cell? ⟨w.heap.size, 2, none⟩ = some (.int .i64 1) := (belc hb hl).trans ((belc hbx hl).symm.trans p2)
      have hbe : Below w.heap.size w wr := hbW.trans (hb.mono (by omega))
      clear ha hR
      go_wp2
      go_quiet (fail)
      go_wp2
      go_ret
      exact ⟨rfl, (by repeat (first | (with_reducible exact hbe) | (with_reducible refine Below.drew ?_) | (with_reducible refine below_drewN ?_ _) | (with_reducible refine Below.setCell ?_ ?_ _; rotate_left; (first | omega | (simp <;> omega))) | (with_reducible refine Below.alloc ?_ ?_ _; rotate_left; (first | omega | (simp <;> omega)))))⟩
end Go.Proofs.YtbmembmiejmoaaaDoor
