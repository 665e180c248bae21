/- The sanity check of the laws of locks, and the locks they make. -/
import Derived.Test.YtkagaelhlghagaaD
import Derived.Test.YtkagaelhlghagaaVL
import Derived.Test.YtkagaelhlghagaaVR
import Derived.Test.YtkagaelhlghagaaDice
namespace Go.Proofs.Ytkagaelhlghagaa
open Go.RowKit

/-- Locks in order, in memory above the dice. -/
structure Lst (w : World) (d : Nat) (A : Option Addr) (n c : Nat) (l : List Lk) : Prop where
  sl : Sl w w.heap.size 2 Lk.cells A n l
  hi : ∀ ad, A = some ad → ad.block ≠ d
  room : Room A n c
  asc : Asc l
  fit : Fit l
section
variable {w w' : World} {d n c : Nat} {A : Option Addr} {l : List Lk}
theorem Lst.nil : Lst w d none 0 0 [] := ⟨Sl.nil, (fun _ h => by cases h), Room.nil, List.Pairwise.nil, fun x h => by simp at h⟩
theorem Lst.below (h : Lst w d A n c l) (hb : Below w.heap.size w w') : Lst w' d A n c l := ⟨h.sl.up hb, h.hi, h.room, h.asc, h.fit⟩
theorem Lst.thrown (h : Lst w d A n c l) (ht : Thrown w d w') : Lst w' d A n c l := ⟨h.sl.thrown ht (fun _ => h.hi), h.hi, h.room, h.asc, h.fit⟩
theorem Lst.next {A' : Option Addr} {n' c' : Nat} {r : List Lk} (h : Lst w d A n c l) (hd : d < w.heap.size) (hs : Sl w' w'.heap.size 2 Lk.cells A' n' r) (hlo : A' = A ∨ ∀ ad, A' = some ad → w.heap.size ≤ ad.block) (hr : Room A' n' c') (ha : Asc r) (hf : Fit r) : Lst w' d A' n' c' r :=
  ⟨hs, (fun ad had => by rcases hlo with e | e
                         · exact h.hi ad (by rw [← e]; exact had)
                         · have := e ad had; omega), hr, ha, hf⟩
end
theorem take_good {m : Int} {l : List Lk} (ha : Asc l) (hf : Fit l) (hm : -9223372036854775808 ≤ m) : Asc (takeL m l) ∧ Fit (takeL m l) ∧ (takeL m l).length ≤ l.length + 1 := by
  unfold takeL; split
  · exact ⟨List.Pairwise.nil, fun x h => by simp at h, by simp⟩
  · split
    · exact ⟨List.Pairwise.nil, fun x h => by simp at h, by simp⟩
    · exact ⟨asc_set ha, fit_set hf ⟨hm, by omega⟩ (by omega), len_set _ _ _⟩
theorem hold_good {m : Int} {l : List Lk} (ha : Asc l) (hf : Fit l) (hm : -9223372036854775808 ≤ m) : Asc (holdL m l) ∧ Fit (holdL m l) ∧ (holdL m l).length ≤ l.length + 1 := by
  unfold holdL; split
  · exact ⟨List.Pairwise.nil, fun x h => by simp at h, by simp⟩
  · split
    · exact ⟨asc_set ha, fit_set hf ⟨hm, by omega⟩ (by omega), len_set _ _ _⟩
    · exact ⟨List.Pairwise.nil, fun x h => by simp at h, by simp⟩
theorem free_good {m : Int} {l : List Lk} (ha : Asc l) (hf : Fit l) (hm : -9223372036854775808 ≤ m) : Asc (freeL m l) ∧ Fit (freeL m l) ∧ (freeL m l).length ≤ l.length + 1 := by
  unfold freeL; split
  · exact ⟨List.Pairwise.nil, fun x h => by simp at h, by simp⟩
  · split
    · exact ⟨asc_set ha, fit_set hf ⟨hm, by omega⟩ (by omega), len_set _ _ _⟩
    · exact ⟨List.Pairwise.nil, fun x h => by simp at h, by simp⟩
theorem give_good {m : Int} {l : List Lk} (ha : Asc l) (hf : Fit l) (hm : -9223372036854775808 ≤ m) : Asc (giveL m l) ∧ Fit (giveL m l) ∧ (giveL m l).length ≤ l.length + 1 := by
  unfold giveL; split
  · exact ⟨List.Pairwise.nil, fun x h => by simp at h, by simp⟩
  · split
    · exact ⟨asc_set ha, fit_set hf ⟨hm, by omega⟩ (by omega), len_set _ _ _⟩
    · exact ⟨ha, hf, by omega⟩

set_option maxHeartbeats 1000000 in
theorem sane_any (w : World) : Calls Try.prog 6 #[] w fun e w' => e = .returned (.bool true) ∧ Below w.heap.size w w' := by
  go_enter Try.func6, Try.ntmps6
  go_wp2_with fail
  refine (hold_any none 0 0 [] (-3) w Sl.nil List.Pairwise.nil (by omega)).mono ?_
  rintro e w1 ⟨A1, n1, c1, rfl, hn1, hs1, hb1, _, hr1⟩
  rw [show holdE (-3) [] = 0 from rfl, show holdL (-3) [] = [⟨-3, 1⟩] from rfl] at *
  obtain rfl : n1 = 1 := hn1
  have ha1 : Asc [(⟨-3, 1⟩ : Lk)] := List.pairwise_singleton _ _
  have HS1 := Lib.hid hs1
  clear hs1
  go_wp2_with fail
  refine (take_any A1 1 c1 [⟨-3, 1⟩] (-3) w1 HS1.out ha1 (by omega)).mono ?_
  rintro e w2 ⟨A2, n2, c2, rfl, hn2, hs2, hb2, _, hr2⟩
  rw [show takeE (-3) [⟨-3, 1⟩] = 13 from rfl, show takeL (-3) [⟨-3, 1⟩] = [] from rfl] at *
  obtain rfl : n2 = 0 := hn2
  have hbw2 : Below w.heap.size w w2 := hb1.trans (hb2.mono hb1.size)
  go_wp2_with fail
  refine (free_any A1 1 c1 [⟨-3, 1⟩] (-3) w2 (HS1.out.up hb2) ha1 (by omega)).mono ?_
  rintro e w3 ⟨A3, n3, c3, rfl, hn3, hs3, hb3, _, hr3⟩
  rw [show freeE (-3) [⟨-3, 1⟩] = 0 from rfl, show freeL (-3) [⟨-3, 1⟩] = [] from rfl] at *
  obtain rfl : n3 = 0 := hn3
  have hbw3 : Below w.heap.size w w3 := hbw2.trans (hb3.mono hbw2.size)
  have HS3 := Lib.hid hs3
  clear hs3 hs2
  go_wp2_with fail
  refine (take_any A3 0 c3 [] (-3) w3 HS3.out List.Pairwise.nil (by omega)).mono ?_
  rintro e w4 ⟨A4, n4, c4, rfl, hn4, hs4, hb4, _, hr4⟩
  rw [show takeE (-3) [] = 0 from rfl, show takeL (-3) [] = [⟨-3, 2⟩] from rfl] at *
  obtain rfl : n4 = 1 := hn4
  have hbw4 : Below w.heap.size w w4 := hbw3.trans (hb4.mono hbw3.size)
  have ha4 : Asc [(⟨-3, 2⟩ : Lk)] := List.pairwise_singleton _ _
  have HS4 := Lib.hid hs4
  clear hs4
  go_wp2_with fail
  refine (holder_any A4 1 c4 [⟨-3, 2⟩] (-3) w4 HS4.out ha4 (by omega)).mono ?_
  rintro e w5 ⟨rfl, hb5⟩
  rw [show holder (-3) [⟨-3, 2⟩] = 2 from rfl]
  have hbw5 : Below w.heap.size w w5 := hbw4.trans (hb5.mono hbw4.size)
  go_wp2_with fail
  refine (lock_valid A4 1 c4 [⟨-3, 2⟩] w5 (HS4.out.up hb5) (by omega)).mono ?_
  rintro e w6 ⟨rfl, hb6⟩
  rw [valid_good ha4 (fun x hx => by simp at hx; subst hx; simp)]
  have hbw6 : Below w.heap.size w w6 := hbw5.trans (hb6.mono hbw5.size)
  go_wp2
  go_ret
  exact ⟨rfl, hbw6⟩

/-- What made leaves. -/
def Made (d : Nat) (w : World) (e : Ending) (w' : World) : Prop := ∃ (n : Nat) (A : Option Addr) (c : Nat) (l : List Lk), e = .returned (.slice A n c) ∧ n ≤ 20 ∧ Hid (Lst w' d A n c l) ∧ Thrown w d w'

set_option maxRecDepth 100000 in
set_option maxHeartbeats 4000000 in
theorem made_any (d : Nat) (w : World) (hD : Dice w d) : Calls Try.prog 7 #[.pointer (some ⟨d, 0, none⟩)] w (Made d w) := by
  have hdw := hD.lt
  go_enter Try.func7, Try.ntmps7
  go_wp2_with fail
  refine (pick_any d 20 w hD (by omega) (by omega)).mono ?_
  rintro e w1 ⟨r, hr, rfl, ht1, hz1⟩
  have HT1 := Lib.hid ht1
  clear ht1 hz1
  go_wp2_with fail
  go_loopw [3, 4] (fun s3 s10 wr => ∃ (k n : Nat) (A : Option Addr) (c : Nat) (l : List Lk), n + k ≤ 20 ∧ s10 = .int .i64 k ∧ s3 = .slice A n c ∧ Hid (Lst wr d A n c l) ∧ Hid (Thrown w d wr)) (fun _ k _ => (intOf k).toNat)
  case atStart => exact ⟨r, 0, none, 0, [], by omega, rfl, rfl, Lib.hid Lst.nil, HT1⟩
  case round =>
    obtain ⟨k, n, A, c, l, hnk, rfl, rfl, hL, hT⟩ := hrel
    by_cases hk : 0 < k
    · go_wp2_with fail
      refine (pick_any d 5 wr hT.out.dice (by omega) (by omega)).mono ?_
      rintro e x1 ⟨p, hp, rfl, t1, y1⟩
      have T1 := Lib.hid (hT.out.trans t1)
      have L1 := Lib.hid (hL.out.thrown t1)
      clear t1 hL hT
      go_wp2_with fail
      refine (pick_any d 4 x1 T1.out.dice (by omega) (by omega)).mono ?_
      rintro e x2 ⟨q, hq, rfl, t2, y2⟩
      have T2 := Lib.hid (T1.out.trans t2)
      have L2 := Lib.hid (L1.out.thrown t2)
      have hdx : d < x2.heap.size := T2.out.dice.lt
      clear t2 L1 T1
      have hm1 : IntKind.i64.wrap (-1 - (p : Int)) = -1 - p := by rw [IntKind.wrap_i64]; omega
      by_cases hq0 : q = 0
      · subst hq0
        go_wp2_with fail
        refine (reftake_any A n c l (-1 - p) x2 L2.out.sl L2.out.room (by omega)).mono ?_
        rintro e x3 ⟨A3, n3, c3, rfl, hn3, hs3, hb3, hlo3, hr3⟩
        obtain ⟨g1, g2, g3⟩ := take_good (m := -1 - p) L2.out.asc L2.out.fit (by omega)
        have hln : n = l.length := L2.out.sl.len.symm
        have T3 := Lib.hid (T2.out.trans (.of_below T2.out.dice hb3))
        have L3 := Lib.hid (L2.out.next hdx hs3 hlo3 hr3 g1 g2)
        have L2' := Lib.hid (L2.out.below hb3)
        have hn3' : n3 ≤ n + 1 := by omega
        clear hn3 hs3 hb3 hlo3 hr3 g1 g2 g3 hln
        by_cases he : takeE (-1 - p) l = 0
        · rw [he]
          go_wp2
          go_roundw
          case rel => exact ⟨k - 1, n3, A3, c3, _, by omega, by go_num, rfl, L3, T3⟩
          case measure => simp [intOf]; omega
        · go_wp2
          go_roundw
          case rel => exact ⟨k - 1, n, A, c, _, by omega, by go_num, rfl, L2', T3⟩
          case measure => simp [intOf]; omega
      · by_cases hq1 : q = 1
        · subst hq1
          go_wp2_with fail
          refine (refgive_any A n c l (-1 - p) x2 L2.out.sl L2.out.room (by omega)).mono ?_
          rintro e x3 ⟨A3, n3, c3, rfl, hn3, hs3, hb3, hlo3, hr3⟩
          obtain ⟨g1, g2, g3⟩ := give_good (m := -1 - p) L2.out.asc L2.out.fit (by omega)
          have hln : n = l.length := L2.out.sl.len.symm
          have T3 := Lib.hid (T2.out.trans (.of_below T2.out.dice hb3))
          have L3 := Lib.hid (L2.out.next hdx hs3 hlo3 hr3 g1 g2)
          have L2' := Lib.hid (L2.out.below hb3)
          have hn3' : n3 ≤ n + 1 := by omega
          clear hn3 hs3 hb3 hlo3 hr3 g1 g2 g3 hln
          by_cases he : giveE (-1 - p) l = 0
          · rw [he]
            go_wp2
            go_roundw
            case rel => exact ⟨k - 1, n3, A3, c3, _, by omega, by go_num, rfl, L3, T3⟩
            case measure => simp [intOf]; omega
          · go_wp2
            go_roundw
            case rel => exact ⟨k - 1, n, A, c, _, by omega, by go_num, rfl, L2', T3⟩
            case measure => simp [intOf]; omega
        · by_cases hq2 : q = 2
          · subst hq2
            go_wp2_with fail
            refine (refhold_any A n c l (-1 - p) x2 L2.out.sl L2.out.room (by omega)).mono ?_
            rintro e x3 ⟨A3, n3, c3, rfl, hn3, hs3, hb3, hlo3, hr3⟩
            obtain ⟨g1, g2, g3⟩ := hold_good (m := -1 - p) L2.out.asc L2.out.fit (by omega)
            have hln : n = l.length := L2.out.sl.len.symm
            have T3 := Lib.hid (T2.out.trans (.of_below T2.out.dice hb3))
            have L3 := Lib.hid (L2.out.next hdx hs3 hlo3 hr3 g1 g2)
            have L2' := Lib.hid (L2.out.below hb3)
            have hn3' : n3 ≤ n + 1 := by omega
            clear hn3 hs3 hb3 hlo3 hr3 g1 g2 g3 hln
            by_cases he : holdE (-1 - p) l = 0
            · rw [he]
              go_wp2
              go_roundw
              case rel => exact ⟨k - 1, n3, A3, c3, _, by omega, by go_num, rfl, L3, T3⟩
              case measure => simp [intOf]; omega
            · go_wp2
              go_roundw
              case rel => exact ⟨k - 1, n, A, c, _, by omega, by go_num, rfl, L2', T3⟩
              case measure => simp [intOf]; omega
          · go_wp2_with fail
            refine (reffree_any A n c l (-1 - p) x2 L2.out.sl L2.out.room (by omega)).mono ?_
            rintro e x3 ⟨A3, n3, c3, rfl, hn3, hs3, hb3, hlo3, hr3⟩
            obtain ⟨g1, g2, g3⟩ := free_good (m := -1 - p) L2.out.asc L2.out.fit (by omega)
            have hln : n = l.length := L2.out.sl.len.symm
            have T3 := Lib.hid (T2.out.trans (.of_below T2.out.dice hb3))
            have L3 := Lib.hid (L2.out.next hdx hs3 hlo3 hr3 g1 g2)
            have L2' := Lib.hid (L2.out.below hb3)
            have hn3' : n3 ≤ n + 1 := by omega
            clear hn3 hs3 hb3 hlo3 hr3 g1 g2 g3 hln
            by_cases he : freeE (-1 - p) l = 0
            · rw [he]
              go_wp2
              go_roundw
              case rel => exact ⟨k - 1, n3, A3, c3, _, by omega, by go_num, rfl, L3, T3⟩
              case measure => simp [intOf]; omega
            · go_wp2
              go_roundw
              case rel => exact ⟨k - 1, n, A, c, _, by omega, by go_num, rfl, L2', T3⟩
              case measure => simp [intOf]; omega
    · obtain rfl : k = 0 := by omega
      go_wp2
      go_ret
      exact ⟨n, A, c, l, rfl, by omega, hL, hT.out⟩
end Go.Proofs.Ytkagaelhlghagaa
