/- LockKeeps, walked. -/
import Derived.Test.YtkagaelhlghagaaE
namespace Go.Proofs.Ytkagaelhlghagaa
open Go.RowKit

theorem keep_hold {m x : Int} {l : List Lk} (ha : Asc l) (h2 : holder x l = 2) (hE : holdE m l = 0) : holder x (holdL m l) = 2 := by
  unfold holdE at hE
  split at hE
  · cases hE
  · rename_i h0
    split at hE
    · rename_i h1
      have hne : ¬ x = m := by intro h; subst h; omega
      simp [holdL, h0, h1, holder_set ha, hne, h2]
    · cases hE
theorem keep_free {m x : Int} {l : List Lk} (ha : Asc l) (h2 : holder x l = 2) (hE : freeE m l = 0) : holder x (freeL m l) = 2 := by
  unfold freeE at hE
  split at hE
  · cases hE
  · rename_i h0
    split at hE
    · rename_i h1
      have hne : ¬ x = m := by intro h; subst h; omega
      simp [freeL, h0, h1, holder_set ha, hne, h2]
    · cases hE
theorem keep_take {m x : Int} {l : List Lk} (ha : Asc l) (h2 : holder x l = 2) (hE : takeE m l = 0) : holder x (takeL m l) = 2 := by
  unfold takeE at hE
  split at hE
  · cases hE
  · rename_i h0
    split at hE
    · cases hE
    · rename_i h1
      simp only [takeL, if_neg h0, if_neg h1, holder_set ha]
      split
      · rfl
      · exact h2

set_option maxRecDepth 100000 in
set_option maxHeartbeats 8000000 in
theorem keeps_any (A0 : Option Addr) (n0 c0 : Nat) (seeds : List Int) (v : Int) (w : World) (hs : Sl w w.heap.size 1 byteCells A0 n0 seeds) (hl : ∀ (i : Nat) (x : Int), seeds[i]? = some x → 0 ≤ x ∧ x ≤ 255) (hnc : n0 ≤ c0) (hn : n0 ≤ 9223372036854775807) (hc : c0 ≤ 9223372036854775807)
    (hv0 : 0 ≤ v) (hv1 : v ≤ 255) :
    Calls Try.prog 4 #[.slice A0 n0 c0, .int .u8 v] w fun e w' => e = .returned (.bool true) ∧ Below w.heap.size w w' := by
  have HS := Lib.hid hs
  have HL := Lib.hid hl
  clear hs hl
  go_enter Try.func4, Try.ntmps4
  go_wp2_with fail
  refine (sane_any _).mono ?_
  rintro e w1 ⟨rfl, hb1⟩
  have hz1 := hb1.size
  go_wp2_with fail
  refine (new_dice A0 n0 c0 seeds w1 (HS.out.up hb1) HL.out hnc hn hc).mono ?_
  rintro e w2 ⟨d, rfl, hD, hd, hb2⟩
  have hbw2 : Below w.heap.size w w2 := hb1.trans (hb2.mono hz1)
  have hdw : w.heap.size ≤ d := by omega
  go_wp2_with fail
  obtain ⟨mine, hmine⟩ : ∃ x, -1 - v % 4 = x := ⟨_, rfl⟩
  rw [hmine]
  have hmi0 : -4 ≤ mine := by omega
  have hmi1 : mine ≤ -1 := by omega
  clear hmine
  refine (take_any none 0 0 [] mine w2 Sl.nil List.Pairwise.nil (by omega)).mono ?_
  rintro e w3 ⟨A3, n3, c3, rfl, hn3, hs3, hb3, hlo3, hr3⟩
  have hte : takeE mine [] = 0 := by simp [takeE, holder]; omega
  have htl : takeL mine [] = [⟨mine, 2⟩] := by simp [takeL, holder, setL]; omega
  rw [hte]
  rw [htl] at hs3 hn3
  obtain rfl : n3 = 1 := hn3
  have hdx : d < w2.heap.size := hD.lt
  have HL3 := Lib.hid ((Lst.nil (w := w2) (d := d)).next hdx hs3 hlo3 hr3 (List.pairwise_singleton _ _) (fun x hx => by simp at hx; subst hx; exact ⟨⟨by show -9223372036854775808 ≤ mine; omega, by show mine < 0; omega⟩, .inr rfl⟩))
  have HT3 := Lib.hid (Thrown.of_below hD hb3)
  clear hs3 hlo3 hr3 hte htl hdx hD
  go_wp2_with fail
  go_loopw [7, 9] (fun s7 s9 wr => ∃ (k n : Nat) (A : Option Addr) (c : Nat) (l : List Lk), k ≤ 20 ∧ n ≤ k + 1 ∧ s9 = .int .i64 k ∧ s7 = .slice A n c ∧ Hid (Lst wr d A n c l) ∧ Hid (holder mine l = 2) ∧ Hid (Thrown w2 d wr)) (fun _ k _ => 20 - (intOf k).toNat)
  case atStart => exact ⟨0, 1, A3, c3, _, by omega, by omega, rfl, rfl, HL3, Lib.hid (by simp [holder]), HT3⟩
  case round =>
    obtain ⟨k, n, A, c, l, hk, hnk, rfl, rfl, hL, HH, hT⟩ := hrel
    by_cases hk20 : k < 20
    · go_wp2_with fail
      refine (pick_any d 4 wr hT.out.dice (by omega) (by omega)).mono ?_
      rintro e x1 ⟨p, hp, rfl, t1, y1⟩
      have T1 := Lib.hid (hT.out.trans t1)
      have L1 := Lib.hid (hL.out.thrown t1)
      clear t1 hL hT
      go_wp2_with fail
      refine (pick_any d 3 x1 T1.out.dice (by omega) (by omega)).mono ?_
      rintro e x2 ⟨q, hq, rfl, t2, y2⟩
      have T2 := Lib.hid (T1.out.trans t2)
      have L2 := Lib.hid (L1.out.thrown t2)
      have hdx : d < x2.heap.size := T2.out.dice.lt
      clear t2 L1 T1
      have hm1 : IntKind.i64.wrap (-1 - (p : Int)) = -1 - p := by rw [IntKind.wrap_i64]; omega
      by_cases hq0 : q = 0
      · subst hq0
        go_wp2_with fail
        refine (hold_any A n c l (-1 - p) x2 L2.out.sl L2.out.asc (by omega)).mono ?_
        rintro e x3 ⟨A3, n3, c3, rfl, hn3, hs3, hb3, hlo3, hr3⟩
        obtain ⟨g1, g2, g3⟩ := hold_good (m := -1 - p) L2.out.asc L2.out.fit (by omega)
        have hln : n = l.length := L2.out.sl.len.symm
        have T3 := Lib.hid (T2.out.trans (.of_below T2.out.dice hb3))
        have L3 := Lib.hid (L2.out.next hdx hs3 hlo3 hr3 g1 g2)
        have L2' := Lib.hid (L2.out.below hb3)
        have hn3' : n3 ≤ n + 1 := by omega
        have HKP := Lib.hid (keep_hold (m := -1 - p) L2.out.asc HH.out)
        clear hn3 hs3 hb3 hlo3 hr3 g1 g2 g3 hln
        by_cases he : holdE (-1 - p) l = 0
        · have HH3 := Lib.hid (HKP.out he)
          rw [he]
          go_wp2_with fail
          refine (holder_any A3 n3 c3 (holdL (-1 - p) l) mine x3 L3.out.sl L3.out.asc (by omega)).mono ?_
          rintro e z1 ⟨rfl, hbz1⟩
          rw [HH3.out]
          go_wp2_with fail
          refine (lock_valid A3 n3 c3 (holdL (-1 - p) l) z1 (L3.out.sl.up hbz1) (by omega)).mono ?_
          rintro e z2 ⟨rfl, hbz2⟩
          rw [valid_good L3.out.asc L3.out.fit]
          have hbz := hbz1.trans (hbz2.mono hbz1.size)
          have L9 := Lib.hid (L3.out.below hbz)
          have T9 := Lib.hid (T3.out.trans (.of_below T3.out.dice hbz))
          go_wp2
          go_roundw
          case rel => exact ⟨k + 1, n3, A3, c3, (holdL (-1 - p) l), by omega, by omega, by go_num, rfl, L9, HH3, T9⟩
          case measure => simp [intOf]; omega
        · go_wp2_with fail
          refine (holder_any A n c l mine x3 L2'.out.sl L2'.out.asc (by omega)).mono ?_
          rintro e z1 ⟨rfl, hbz1⟩
          rw [HH.out]
          go_wp2_with fail
          refine (lock_valid A n c l z1 (L2'.out.sl.up hbz1) (by omega)).mono ?_
          rintro e z2 ⟨rfl, hbz2⟩
          rw [valid_good L2'.out.asc L2'.out.fit]
          have hbz := hbz1.trans (hbz2.mono hbz1.size)
          have L9 := Lib.hid (L2'.out.below hbz)
          have T9 := Lib.hid (T3.out.trans (.of_below T3.out.dice hbz))
          go_wp2
          go_roundw
          case rel => exact ⟨k + 1, n, A, c, l, by omega, by omega, by go_num, rfl, L9, HH, T9⟩
          case measure => simp [intOf]; omega
      · by_cases hq1 : q = 1
        · subst hq1
          go_wp2_with fail
          refine (free_any A n c l (-1 - p) x2 L2.out.sl L2.out.asc (by omega)).mono ?_
          rintro e x3 ⟨A3, n3, c3, rfl, hn3, hs3, hb3, hlo3, hr3⟩
          obtain ⟨g1, g2, g3⟩ := free_good (m := -1 - p) L2.out.asc L2.out.fit (by omega)
          have hln : n = l.length := L2.out.sl.len.symm
          have T3 := Lib.hid (T2.out.trans (.of_below T2.out.dice hb3))
          have L3 := Lib.hid (L2.out.next hdx hs3 hlo3 hr3 g1 g2)
          have L2' := Lib.hid (L2.out.below hb3)
          have hn3' : n3 ≤ n + 1 := by omega
          have HKP := Lib.hid (keep_free (m := -1 - p) L2.out.asc HH.out)
          clear hn3 hs3 hb3 hlo3 hr3 g1 g2 g3 hln
          by_cases he : freeE (-1 - p) l = 0
          · have HH3 := Lib.hid (HKP.out he)
            rw [he]
            go_wp2_with fail
            refine (holder_any A3 n3 c3 (freeL (-1 - p) l) mine x3 L3.out.sl L3.out.asc (by omega)).mono ?_
            rintro e z1 ⟨rfl, hbz1⟩
            rw [HH3.out]
            go_wp2_with fail
            refine (lock_valid A3 n3 c3 (freeL (-1 - p) l) z1 (L3.out.sl.up hbz1) (by omega)).mono ?_
            rintro e z2 ⟨rfl, hbz2⟩
            rw [valid_good L3.out.asc L3.out.fit]
            have hbz := hbz1.trans (hbz2.mono hbz1.size)
            have L9 := Lib.hid (L3.out.below hbz)
            have T9 := Lib.hid (T3.out.trans (.of_below T3.out.dice hbz))
            go_wp2
            go_roundw
            case rel => exact ⟨k + 1, n3, A3, c3, (freeL (-1 - p) l), by omega, by omega, by go_num, rfl, L9, HH3, T9⟩
            case measure => simp [intOf]; omega
          · go_wp2_with fail
            refine (holder_any A n c l mine x3 L2'.out.sl L2'.out.asc (by omega)).mono ?_
            rintro e z1 ⟨rfl, hbz1⟩
            rw [HH.out]
            go_wp2_with fail
            refine (lock_valid A n c l z1 (L2'.out.sl.up hbz1) (by omega)).mono ?_
            rintro e z2 ⟨rfl, hbz2⟩
            rw [valid_good L2'.out.asc L2'.out.fit]
            have hbz := hbz1.trans (hbz2.mono hbz1.size)
            have L9 := Lib.hid (L2'.out.below hbz)
            have T9 := Lib.hid (T3.out.trans (.of_below T3.out.dice hbz))
            go_wp2
            go_roundw
            case rel => exact ⟨k + 1, n, A, c, l, by omega, by omega, by go_num, rfl, L9, HH, T9⟩
            case measure => simp [intOf]; omega
        · go_wp2_with fail
          refine (take_any A n c l (-1 - p) x2 L2.out.sl L2.out.asc (by omega)).mono ?_
          rintro e x3 ⟨A3, n3, c3, rfl, hn3, hs3, hb3, hlo3, hr3⟩
          obtain ⟨g1, g2, g3⟩ := take_good (m := -1 - p) L2.out.asc L2.out.fit (by omega)
          have hln : n = l.length := L2.out.sl.len.symm
          have T3 := Lib.hid (T2.out.trans (.of_below T2.out.dice hb3))
          have L3 := Lib.hid (L2.out.next hdx hs3 hlo3 hr3 g1 g2)
          have L2' := Lib.hid (L2.out.below hb3)
          have hn3' : n3 ≤ n + 1 := by omega
          have HKP := Lib.hid (keep_take (m := -1 - p) L2.out.asc HH.out)
          clear hn3 hs3 hb3 hlo3 hr3 g1 g2 g3 hln
          go_wp2_with fail
          refine (holder_any A n c l (-1 - p) x3 L2'.out.sl L2'.out.asc (by omega)).mono ?_
          rintro e x4 ⟨rfl, hb4⟩
          have T4 := Lib.hid (T3.out.trans (.of_below T3.out.dice hb4))
          have L4 := Lib.hid (L3.out.below hb4)
          have L4' := Lib.hid (L2'.out.below hb4)
          clear hb4
          have hneg : ¬ (0 : Int) ≤ -1 - p := by omega
          by_cases h1 : holder (-1 - p) l = 1
          · have he : takeE (-1 - p) l = 13 := by unfold takeE; rw [if_neg hneg]; simp [h1]
            rw [he, h1]
            go_wp2_with fail
            refine (holder_any A n c l mine x4 L4'.out.sl L4'.out.asc (by omega)).mono ?_
            rintro e z1 ⟨rfl, hbz1⟩
            rw [HH.out]
            go_wp2_with fail
            refine (lock_valid A n c l z1 (L4'.out.sl.up hbz1) (by omega)).mono ?_
            rintro e z2 ⟨rfl, hbz2⟩
            rw [valid_good L4'.out.asc L4'.out.fit]
            have hbz := hbz1.trans (hbz2.mono hbz1.size)
            have L9 := Lib.hid (L4'.out.below hbz)
            have T9 := Lib.hid (T4.out.trans (.of_below T4.out.dice hbz))
            go_wp2
            go_roundw
            case rel => exact ⟨k + 1, n, A, c, l, by omega, by omega, by go_num, rfl, L9, HH, T9⟩
            case measure => simp [intOf]; omega
          · have he : takeE (-1 - p) l = 0 := by unfold takeE; rw [if_neg hneg]; simp [h1]
            rw [he]
            have HH3 := Lib.hid (HKP.out he)
            go_wp2_with fail
            refine (holder_any A3 n3 c3 (takeL (-1 - p) l) mine x4 L4.out.sl L4.out.asc (by omega)).mono ?_
            rintro e z1 ⟨rfl, hbz1⟩
            rw [HH3.out]
            go_wp2_with fail
            refine (lock_valid A3 n3 c3 (takeL (-1 - p) l) z1 (L4.out.sl.up hbz1) (by omega)).mono ?_
            rintro e z2 ⟨rfl, hbz2⟩
            rw [valid_good L4.out.asc L4.out.fit]
            have hbz := hbz1.trans (hbz2.mono hbz1.size)
            have L9 := Lib.hid (L4.out.below hbz)
            have T9 := Lib.hid (T4.out.trans (.of_below T4.out.dice hbz))
            go_wp2
            go_roundw
            case rel => exact ⟨k + 1, n3, A3, c3, (takeL (-1 - p) l), by omega, by omega, by go_num, rfl, L9, HH3, T9⟩
            case measure => simp [intOf]; omega
    · obtain rfl : k = 20 := by omega
      go_wp2_with fail
      refine (give_any A n c l mine wr hL.out.sl hL.out.asc (by omega)).mono ?_
      rintro e x1 ⟨A1, n1, c1, rfl, hn1, hs1, hb1, _, _⟩
      have hl := hL.out.sl.len
      obtain ⟨g1, g2, g3⟩ := give_good (m := mine) hL.out.asc hL.out.fit (by omega)
      have hge : giveE mine l = 0 := by simp [giveE]; omega
      have hgh : holder mine (giveL mine l) = 0 := by
        have h2 := HH.out
        simp only [giveL, if_neg (show ¬ 0 ≤ mine by omega), if_pos h2, holder_set hL.out.asc, if_true]
      rw [hge]
      have HS1 := Lib.hid hs1
      have HG := Lib.hid hgh
      have hn1' : n1 ≤ 1000 := by omega
      have T1 := Lib.hid (hT.out.trans (.of_below hT.out.dice hb1))
      clear hs1 hgh hge hn1 hl
      go_wp2_with fail
      refine (holder_any A1 n1 c1 _ mine x1 HS1.out g1 (by omega)).mono ?_
      rintro e x2 ⟨rfl, hb2⟩
      rw [HG.out]
      have T2 := Lib.hid (T1.out.trans (.of_below T1.out.dice hb2))
      go_wp2
      go_ret
      exact ⟨rfl, hbw2.trans (T2.out.below hdw hbw2.size)⟩
end Go.Proofs.Ytkagaelhlghagaa
