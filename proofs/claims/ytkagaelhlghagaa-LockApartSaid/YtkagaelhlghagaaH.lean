/- LockApart, walked. -/
import Derived.Test.YtkagaelhlghagaaE
import Derived.Test.YtkagaelhlghagaaDMod
namespace Go.Proofs.Ytkagaelhlghagaa
open Go.RowKit

theorem part_take {m x : Int} {l : List Lk} (ha : Asc l) (hne : ¬ x = m) (hE : takeE m l = 0) : holder x (takeL m l) = holder x l := by
  unfold takeE at hE
  split at hE
  · cases hE
  · rename_i h0
    split at hE
    · cases hE
    · rename_i h1
      simp only [takeL, if_neg h0, if_neg h1, holder_set ha, if_neg hne]
theorem part_hold {m x : Int} {l : List Lk} (ha : Asc l) (hne : ¬ x = m) (hE : holdE m l = 0) : holder x (holdL m l) = holder x l := by
  unfold holdE at hE
  split at hE
  · cases hE
  · rename_i h0
    split at hE
    · rename_i h1
      simp only [holdL, if_neg h0, if_pos h1, holder_set ha, if_neg hne]
    · cases hE
theorem part_free {m x : Int} {l : List Lk} (ha : Asc l) (hne : ¬ x = m) (hE : freeE m l = 0) : holder x (freeL m l) = holder x l := by
  unfold freeE at hE
  split at hE
  · cases hE
  · rename_i h0
    split at hE
    · rename_i h1
      simp only [freeL, if_neg h0, if_pos h1, holder_set ha, if_neg hne]
    · cases hE
theorem part_give {m x : Int} {l : List Lk} (ha : Asc l) (hne : ¬ x = m) (hE : giveE m l = 0) : holder x (giveL m l) = holder x l := by
  unfold giveE at hE
  split at hE
  · cases hE
  · rename_i h0
    simp only [giveL, if_neg h0]
    split
    · simp only [holder_set ha, if_neg hne]
    · rfl
theorem err_take {m : Int} {l : List Lk} (h0 : ¬ 0 ≤ m) (hE : ¬ takeE m l = 0) : takeE m l = 13 := by
  unfold takeE at *; rw [if_neg h0] at *; split
  · rfl
  · rename_i h; simp [h] at hE
theorem err_hold {m : Int} {l : List Lk} (h0 : ¬ 0 ≤ m) (hE : ¬ holdE m l = 0) : holdE m l = 6 := by
  unfold holdE at *; rw [if_neg h0] at *; split
  · rename_i h; simp [h] at hE
  · rfl
theorem err_free {m : Int} {l : List Lk} (h0 : ¬ 0 ≤ m) (hE : ¬ freeE m l = 0) : freeE m l = 5 := by
  unfold freeE at *; rw [if_neg h0] at *; split
  · rename_i h; simp [h] at hE
  · rfl
theorem err_give {m : Int} {l : List Lk} (h0 : ¬ 0 ≤ m) (hE : ¬ giveE m l = 0) : giveE m l = 13 := by
  unfold giveE at *; rw [if_neg h0] at *; exact absurd rfl hE

set_option maxRecDepth 100000 in
set_option maxHeartbeats 8000000 in
theorem apart_any (A0 : Option Addr) (n0 c0 : Nat) (seeds : List Int) (a b v : Int) (w : World) (hs : Sl w w.heap.size 1 byteCells A0 n0 seeds) (hl : ∀ (i : Nat) (x : Int), seeds[i]? = some x → 0 ≤ x ∧ x ≤ 255) (hnc : n0 ≤ c0) (hn : n0 ≤ 9223372036854775807) (hc : c0 ≤ 9223372036854775807)
    (ha0 : 0 ≤ a) (ha1 : a ≤ 255) (hb0 : 0 ≤ b) (hb1 : b ≤ 255) (hv : -9223372036854775808 ≤ v ∧ v ≤ 9223372036854775807) :
    Calls Try.prog 5 #[.slice A0 n0 c0, .int .u8 a, .int .u8 b, .int .i64 v] w fun e w' => e = .returned (.bool true) ∧ Below w.heap.size w w' := by
  have HS := Lib.hid hs
  have HL := Lib.hid hl
  clear hs hl
  go_enter Try.func5, Try.ntmps5
  go_wp2_with fail
  refine (sane_any _).mono ?_
  rintro e w1 ⟨rfl, hb1⟩
  have hz1 := hb1.size
  go_wp2_with fail
  refine (new_dice A0 n0 c0 seeds w1 (HS.out.up hb1) HL.out hnc hn hc).mono ?_
  rintro e w2 ⟨d, rfl, hD, hd, hb2⟩
  have hbw2 : Below w.heap.size w w2 := hb1.trans (hb2.mono hz1)
  have hdw : w.heap.size ≤ d := by omega
  go_wp2_with fail
  refine (made_any d w2 hD).mono ?_
  rintro e w3 ⟨n, A, c, l, rfl, hn20, hLst, ht3⟩
  have hbw3 : Below w.heap.size w w3 := hbw2.trans (ht3.below hdw (by have := hbw2.size; omega))
  have hdx : d < w3.heap.size := ht3.dice.lt
  clear hD ht3
  have e0 : IntKind.u8.wrap (a % 6) = a % 6 := by rw [IntKind.wrap_u8]; omega
  by_cases hmn : a % 6 = b % 6
  · go_wp2
    go_ret
    exact ⟨rfl, hbw3⟩
  obtain ⟨m, hm⟩ : ∃ x, -1 - a % 6 = x := ⟨_, rfl⟩
  obtain ⟨x, hx⟩ : ∃ x, -1 - b % 6 = x := ⟨_, rfl⟩
  have hxm : ¬ x = m := by omega
  have hmx : ¬ m = x := by omega
  have hm0 : -6 ≤ m := by omega
  have hm1 : m ≤ -1 := by omega
  have hx0 : -6 ≤ x := by omega
  have hx1 : x ≤ -1 := by omega
  have hng : ¬ 0 ≤ m := by omega
  go_wp2_with fail
  refine (mod_any v 4 w3 (by omega) (by omega) hv).mono ?_
  rintro e w4 ⟨r, hr4, hrv, rfl, hb4⟩
  have L4 := Lib.hid (hLst.out.below hb4)
  have hdx4 : d < w4.heap.size := by have := hb4.size; omega
  have hbw4 : Below w.heap.size w w4 := hbw3.trans (hb4.mono hbw3.size)
  clear hLst hrv
  by_cases hr0 : r = 0
  · subst hr0
    go_wp2_with fail
    refine (take_any A n c l m w4 L4.out.sl L4.out.asc (by omega)).mono ?_
    rintro e x3 ⟨A3, n3, c3, rfl, hn3, hs3, hb3, hlo3, hr3⟩
    obtain ⟨g1, g2, g3⟩ := take_good (m := m) L4.out.asc L4.out.fit (by omega)
    have hln : n = l.length := L4.out.sl.len.symm
    have L3 := Lib.hid (L4.out.next hdx4 hs3 hlo3 hr3 g1 g2)
    have L4' := Lib.hid (L4.out.below hb3)
    have hn3' : n3 ≤ n + 1 := by omega
    have hbx3 : Below w.heap.size w x3 := hbw4.trans (hb3.mono hbw4.size)
    clear hn3 hs3 hb3 hlo3 hr3 g1 g2 g3 hln
    by_cases he : takeE m l = 0
    · have HP := Lib.hid (part_take L4'.out.asc hxm he)
      rw [he]
      have hlen : (n3 : Int) ≤ (n : Int) + 1 := by omega
      go_wp2_with fail
      refine (holder_any A3 n3 c3 (takeL m l) x x3 L3.out.sl L3.out.asc (by omega)).mono ?_
      rintro e z1 ⟨rfl, hz1'⟩
      rw [HP.out]
      have hbz1 := hbx3.trans (hz1'.mono hbx3.size)
      go_wp2_with fail
      refine (holder_any A n c l x z1 (L4'.out.sl.up hz1') L4'.out.asc (by omega)).mono ?_
      rintro e z2 ⟨rfl, hz2'⟩
      have hzz := hz1'.trans (hz2'.mono hz1'.size)
      have hbz2 := hbz1.trans (hz2'.mono hbz1.size)
      go_wp2_with fail
      refine (lock_valid A3 n3 c3 (takeL m l) z2 (L3.out.sl.up hzz) (by omega)).mono ?_
      rintro e z3 ⟨rfl, hz3'⟩
      rw [valid_good L3.out.asc L3.out.fit]
      have hbz3 := hbz2.trans (hz3'.mono hbz2.size)
      go_wp2
      go_ret
      exact ⟨by simp, hbz3⟩
    · have HE := Lib.hid (err_take (show ¬ 0 ≤ m by omega) he)
      rw [HE.out]
      go_wp2
      go_ret
      exact ⟨rfl, hbx3⟩
  · by_cases hr1 : r = 1
    · subst hr1
      go_wp2_with fail
      refine (give_any A n c l m w4 L4.out.sl L4.out.asc (by omega)).mono ?_
      rintro e x3 ⟨A3, n3, c3, rfl, hn3, hs3, hb3, hlo3, hr3⟩
      obtain ⟨g1, g2, g3⟩ := give_good (m := m) L4.out.asc L4.out.fit (by omega)
      have hln : n = l.length := L4.out.sl.len.symm
      have L3 := Lib.hid (L4.out.next hdx4 hs3 hlo3 hr3 g1 g2)
      have L4' := Lib.hid (L4.out.below hb3)
      have hn3' : n3 ≤ n + 1 := by omega
      have hbx3 : Below w.heap.size w x3 := hbw4.trans (hb3.mono hbw4.size)
      clear hn3 hs3 hb3 hlo3 hr3 g1 g2 g3 hln
      by_cases he : giveE m l = 0
      · have HP := Lib.hid (part_give L4'.out.asc hxm he)
        rw [he]
        have hlen : (n3 : Int) ≤ (n : Int) + 1 := by omega
        go_wp2_with fail
        refine (holder_any A3 n3 c3 (giveL m l) x x3 L3.out.sl L3.out.asc (by omega)).mono ?_
        rintro e z1 ⟨rfl, hz1'⟩
        rw [HP.out]
        have hbz1 := hbx3.trans (hz1'.mono hbx3.size)
        go_wp2_with fail
        refine (holder_any A n c l x z1 (L4'.out.sl.up hz1') L4'.out.asc (by omega)).mono ?_
        rintro e z2 ⟨rfl, hz2'⟩
        have hzz := hz1'.trans (hz2'.mono hz1'.size)
        have hbz2 := hbz1.trans (hz2'.mono hbz1.size)
        go_wp2_with fail
        refine (lock_valid A3 n3 c3 (giveL m l) z2 (L3.out.sl.up hzz) (by omega)).mono ?_
        rintro e z3 ⟨rfl, hz3'⟩
        rw [valid_good L3.out.asc L3.out.fit]
        have hbz3 := hbz2.trans (hz3'.mono hbz2.size)
        go_wp2
        go_ret
        exact ⟨by simp, hbz3⟩
      · have HE := Lib.hid (err_give (show ¬ 0 ≤ m by omega) he)
        rw [HE.out]
        go_wp2
        go_ret
        exact ⟨rfl, hbx3⟩
    · by_cases hr2 : r = 2
      · subst hr2
        go_wp2_with fail
        refine (hold_any A n c l m w4 L4.out.sl L4.out.asc (by omega)).mono ?_
        rintro e x3 ⟨A3, n3, c3, rfl, hn3, hs3, hb3, hlo3, hr3⟩
        obtain ⟨g1, g2, g3⟩ := hold_good (m := m) L4.out.asc L4.out.fit (by omega)
        have hln : n = l.length := L4.out.sl.len.symm
        have L3 := Lib.hid (L4.out.next hdx4 hs3 hlo3 hr3 g1 g2)
        have L4' := Lib.hid (L4.out.below hb3)
        have hn3' : n3 ≤ n + 1 := by omega
        have hbx3 : Below w.heap.size w x3 := hbw4.trans (hb3.mono hbw4.size)
        clear hn3 hs3 hb3 hlo3 hr3 g1 g2 g3 hln
        by_cases he : holdE m l = 0
        · have HP := Lib.hid (part_hold L4'.out.asc hxm he)
          rw [he]
          have hlen : (n3 : Int) ≤ (n : Int) + 1 := by omega
          go_wp2_with fail
          refine (holder_any A3 n3 c3 (holdL m l) x x3 L3.out.sl L3.out.asc (by omega)).mono ?_
          rintro e z1 ⟨rfl, hz1'⟩
          rw [HP.out]
          have hbz1 := hbx3.trans (hz1'.mono hbx3.size)
          go_wp2_with fail
          refine (holder_any A n c l x z1 (L4'.out.sl.up hz1') L4'.out.asc (by omega)).mono ?_
          rintro e z2 ⟨rfl, hz2'⟩
          have hzz := hz1'.trans (hz2'.mono hz1'.size)
          have hbz2 := hbz1.trans (hz2'.mono hbz1.size)
          go_wp2_with fail
          refine (lock_valid A3 n3 c3 (holdL m l) z2 (L3.out.sl.up hzz) (by omega)).mono ?_
          rintro e z3 ⟨rfl, hz3'⟩
          rw [valid_good L3.out.asc L3.out.fit]
          have hbz3 := hbz2.trans (hz3'.mono hbz2.size)
          go_wp2
          go_ret
          exact ⟨by simp, hbz3⟩
        · have HE := Lib.hid (err_hold (show ¬ 0 ≤ m by omega) he)
          rw [HE.out]
          go_wp2
          go_ret
          exact ⟨rfl, hbx3⟩
      · go_wp2_with fail
        refine (free_any A n c l m w4 L4.out.sl L4.out.asc (by omega)).mono ?_
        rintro e x3 ⟨A3, n3, c3, rfl, hn3, hs3, hb3, hlo3, hr3⟩
        obtain ⟨g1, g2, g3⟩ := free_good (m := m) L4.out.asc L4.out.fit (by omega)
        have hln : n = l.length := L4.out.sl.len.symm
        have L3 := Lib.hid (L4.out.next hdx4 hs3 hlo3 hr3 g1 g2)
        have L4' := Lib.hid (L4.out.below hb3)
        have hn3' : n3 ≤ n + 1 := by omega
        have hbx3 : Below w.heap.size w x3 := hbw4.trans (hb3.mono hbw4.size)
        clear hn3 hs3 hb3 hlo3 hr3 g1 g2 g3 hln
        by_cases he : freeE m l = 0
        · have HP := Lib.hid (part_free L4'.out.asc hxm he)
          rw [he]
          have hlen : (n3 : Int) ≤ (n : Int) + 1 := by omega
          go_wp2_with fail
          refine (holder_any A3 n3 c3 (freeL m l) x x3 L3.out.sl L3.out.asc (by omega)).mono ?_
          rintro e z1 ⟨rfl, hz1'⟩
          rw [HP.out]
          have hbz1 := hbx3.trans (hz1'.mono hbx3.size)
          go_wp2_with fail
          refine (holder_any A n c l x z1 (L4'.out.sl.up hz1') L4'.out.asc (by omega)).mono ?_
          rintro e z2 ⟨rfl, hz2'⟩
          have hzz := hz1'.trans (hz2'.mono hz1'.size)
          have hbz2 := hbz1.trans (hz2'.mono hbz1.size)
          go_wp2_with fail
          refine (lock_valid A3 n3 c3 (freeL m l) z2 (L3.out.sl.up hzz) (by omega)).mono ?_
          rintro e z3 ⟨rfl, hz3'⟩
          rw [valid_good L3.out.asc L3.out.fit]
          have hbz3 := hbz2.trans (hz3'.mono hbz2.size)
          go_wp2
          go_ret
          exact ⟨by simp, hbz3⟩
        · have HE := Lib.hid (err_free (show ¬ 0 ≤ m by omega) he)
          rw [HE.out]
          go_wp2
          go_ret
          exact ⟨rfl, hbx3⟩
end Go.Proofs.Ytkagaelhlghagaa
