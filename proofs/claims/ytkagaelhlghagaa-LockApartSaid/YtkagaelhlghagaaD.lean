/- The reference's Take, Give, Hold, Free; whether locks are valid, program and reference. -/
import Derived.Test.YtkagaelhlghagaaC
namespace Go.Proofs.Ytkagaelhlghagaa
open Go.RowKit
set_option maxHeartbeats 400000 in
theorem reftake_any (A : Option Addr) (n c : Nat) (l : List Lk) (m : Int) (w : World) (hs : Sl w w.heap.size 2 Lk.cells A n l) (hroom : Room A n c) (hn : n ≤ 1000) :
    Calls Try.prog 10 #[.slice A n c, .int .i64 m] w (GivesE A (takeL m l) (takeE m l) w) := by
  by_cases h0 : 0 ≤ m
  · have HE := Lib.hid (show takeE m l = 2 by simp [takeE, h0])
    have HR := Lib.hid (show takeL m l = [] by simp [takeL, h0])
    go_enter Try.func10, Try.ntmps10
    go_wp2
    go_ret2
    rw [HE.out, HR.out]
    exact givesE_nil 2 (Below.refl _ _)
  · by_cases h1 : holder m l = 1
    · have HE := Lib.hid (show takeE m l = 13 by simp [takeE, h0, h1])
      have HR := Lib.hid (show takeL m l = [] by simp [takeL, h0, h1])
      go_enter Try.func10, Try.ntmps10
      go_wp2_with fail
      refine (refholder_any A n c l m w hs (by omega)).mono ?_
      rintro e w1 ⟨rfl, hb1⟩
      go_wp2
      go_ret2
      rw [HE.out, HR.out]
      exact givesE_nil 13 hb1
    · have HE := Lib.hid (show takeE m l = 0 by simp [takeE, h0, h1])
      have HR := Lib.hid (show takeL m l = setL m 2 l by simp [takeL, h0, h1])
      go_enter Try.func10, Try.ntmps10
      go_wp2_with fail
      refine (refholder_any A n c l m w hs (by omega)).mono ?_
      rintro e w1 ⟨rfl, hb1⟩
      go_wp2_with fail
      refine (with_any A n c l m 2 w1 (hs.up hb1) hroom hn).mono ?_
      intro e w2 hg
      obtain ⟨A', n', c', rfl, hn', hs', hb', hlo, hroom⟩ := givesE_of (A := A) hb1 hg
      have HN := Lib.hid hn'
      have HS := Lib.hid hs'
      have HLO := Lib.hid hlo
      have HRM := Lib.hid hroom
      clear hg hn' hs' hlo hroom
      go_wp2
      go_ret2
      rw [HE.out, HR.out]
      exact ⟨A', n', c', rfl, HN.out, HS.out, hb', HLO.out, HRM.out⟩
set_option maxHeartbeats 400000 in
theorem refhold_any (A : Option Addr) (n c : Nat) (l : List Lk) (m : Int) (w : World) (hs : Sl w w.heap.size 2 Lk.cells A n l) (hroom : Room A n c) (hn : n ≤ 1000) :
    Calls Try.prog 17 #[.slice A n c, .int .i64 m] w (GivesE A (holdL m l) (holdE m l) w) := by
  by_cases h0 : 0 ≤ m
  · have HE := Lib.hid (show holdE m l = 2 by simp [holdE, h0])
    have HR := Lib.hid (show holdL m l = [] by simp [holdL, h0])
    go_enter Try.func17, Try.ntmps17
    go_wp2
    go_ret2
    rw [HE.out, HR.out]
    exact givesE_nil 2 (Below.refl _ _)
  · by_cases h1 : holder m l = 0
    · have HE := Lib.hid (show holdE m l = 0 by simp [holdE, h0, h1])
      have HR := Lib.hid (show holdL m l = setL m 1 l by simp [holdL, h0, h1])
      go_enter Try.func17, Try.ntmps17
      go_wp2_with fail
      refine (refholder_any A n c l m w hs (by omega)).mono ?_
      rintro e w1 ⟨rfl, hb1⟩
      go_wp2_with fail
      refine (with_any A n c l m 1 w1 (hs.up hb1) hroom hn).mono ?_
      intro e w2 hg
      obtain ⟨A', n', c', rfl, hn', hs', hb', hlo, hroom⟩ := givesE_of (A := A) hb1 hg
      have HN := Lib.hid hn'
      have HS := Lib.hid hs'
      have HLO := Lib.hid hlo
      have HRM := Lib.hid hroom
      clear hg hn' hs' hlo hroom
      go_wp2
      go_ret2
      rw [HE.out, HR.out]
      exact ⟨A', n', c', rfl, HN.out, HS.out, hb', HLO.out, HRM.out⟩
    · have HE := Lib.hid (show holdE m l = 6 by simp [holdE, h0, h1])
      have HR := Lib.hid (show holdL m l = [] by simp [holdL, h0, h1])
      go_enter Try.func17, Try.ntmps17
      go_wp2_with fail
      refine (refholder_any A n c l m w hs (by omega)).mono ?_
      rintro e w1 ⟨rfl, hb1⟩
      go_wp2
      go_ret2
      rw [HE.out, HR.out]
      exact givesE_nil 6 hb1
set_option maxHeartbeats 400000 in
theorem reffree_any (A : Option Addr) (n c : Nat) (l : List Lk) (m : Int) (w : World) (hs : Sl w w.heap.size 2 Lk.cells A n l) (hroom : Room A n c) (hn : n ≤ 1000) :
    Calls Try.prog 19 #[.slice A n c, .int .i64 m] w (GivesE A (freeL m l) (freeE m l) w) := by
  by_cases h0 : 0 ≤ m
  · have HE := Lib.hid (show freeE m l = 2 by simp [freeE, h0])
    have HR := Lib.hid (show freeL m l = [] by simp [freeL, h0])
    go_enter Try.func19, Try.ntmps19
    go_wp2
    go_ret2
    rw [HE.out, HR.out]
    exact givesE_nil 2 (Below.refl _ _)
  · by_cases h1 : holder m l = 1
    · have HE := Lib.hid (show freeE m l = 0 by simp [freeE, h0, h1])
      have HR := Lib.hid (show freeL m l = setL m 0 l by simp [freeL, h0, h1])
      go_enter Try.func19, Try.ntmps19
      go_wp2_with fail
      refine (refholder_any A n c l m w hs (by omega)).mono ?_
      rintro e w1 ⟨rfl, hb1⟩
      go_wp2_with fail
      refine (with_any A n c l m 0 w1 (hs.up hb1) hroom hn).mono ?_
      intro e w2 hg
      obtain ⟨A', n', c', rfl, hn', hs', hb', hlo, hroom⟩ := givesE_of (A := A) hb1 hg
      have HN := Lib.hid hn'
      have HS := Lib.hid hs'
      have HLO := Lib.hid hlo
      have HRM := Lib.hid hroom
      clear hg hn' hs' hlo hroom
      go_wp2
      go_ret2
      rw [HE.out, HR.out]
      exact ⟨A', n', c', rfl, HN.out, HS.out, hb', HLO.out, HRM.out⟩
    · have HE := Lib.hid (show freeE m l = 5 by simp [freeE, h0, h1])
      have HR := Lib.hid (show freeL m l = [] by simp [freeL, h0, h1])
      go_enter Try.func19, Try.ntmps19
      go_wp2_with fail
      refine (refholder_any A n c l m w hs (by omega)).mono ?_
      rintro e w1 ⟨rfl, hb1⟩
      go_wp2
      go_ret2
      rw [HE.out, HR.out]
      exact givesE_nil 5 hb1
set_option maxHeartbeats 400000 in
theorem refgive_any (A : Option Addr) (n c : Nat) (l : List Lk) (m : Int) (w : World) (hs : Sl w w.heap.size 2 Lk.cells A n l) (hroom : Room A n c) (hn : n ≤ 1000) :
    Calls Try.prog 12 #[.slice A n c, .int .i64 m] w (GivesE A (giveL m l) (giveE m l) w) := by
  by_cases h0 : 0 ≤ m
  · have HE := Lib.hid (show giveE m l = 2 by simp [giveE, h0])
    have HR := Lib.hid (show giveL m l = [] by simp [giveL, h0])
    go_enter Try.func12, Try.ntmps12
    go_wp2
    go_ret2
    rw [HE.out, HR.out]
    exact givesE_nil 2 (Below.refl _ _)
  · by_cases h1 : holder m l = 2
    · have HE := Lib.hid (show giveE m l = 0 by simp [giveE, h0])
      have HR := Lib.hid (show giveL m l = setL m 0 l by simp [giveL, h0, h1])
      go_enter Try.func12, Try.ntmps12
      go_wp2_with fail
      refine (refholder_any A n c l m w hs (by omega)).mono ?_
      rintro e w1 ⟨rfl, hb1⟩
      go_wp2_with fail
      refine (with_any A n c l m 0 w1 (hs.up hb1) hroom hn).mono ?_
      intro e w2 hg
      obtain ⟨A', n', c', rfl, hn', hs', hb', hlo, hroom⟩ := givesE_of (A := A) hb1 hg
      have HN := Lib.hid hn'
      have HS := Lib.hid hs'
      have HLO := Lib.hid hlo
      have HRM := Lib.hid hroom
      clear hg hn' hs' hlo hroom
      go_wp2
      go_ret2
      rw [HE.out, HR.out]
      exact ⟨A', n', c', rfl, HN.out, HS.out, hb', HLO.out, HRM.out⟩
    · have HE := Lib.hid (show giveE m l = 0 by simp [giveE, h0])
      have HR := Lib.hid (show giveL m l = l by simp [giveL, h0, h1])
      have HL := Lib.hid hs.len
      go_enter Try.func12, Try.ntmps12
      go_wp2_with fail
      refine (refholder_any A n c l m w hs (by omega)).mono ?_
      rintro e w1 ⟨rfl, hb1⟩
      go_wp2
      go_ret2
      rw [HE.out, HR.out]
      exact ⟨A, n, c, rfl, HL.out.symm, hs.up hb1, hb1, .inl rfl, hroom⟩
end Go.Proofs.Ytkagaelhlghagaa
