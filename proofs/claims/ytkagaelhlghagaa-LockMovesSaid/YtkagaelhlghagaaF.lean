/- LockMoves, walked. -/
import Derived.Test.YtkagaelhlghagaaE
import Derived.Test.YtkagaelhlghagaaSameL
namespace Go.Proofs.Ytkagaelhlghagaa
open Go.RowKit

set_option maxRecDepth 100000 in
set_option maxHeartbeats 8000000 in
theorem moves_any (A0 : Option Addr) (n0 c0 : Nat) (seeds : List Int) (m : Int) (A1 : Option Addr) (n1 c1 : Nat) (raw : List Lk) (w : World) (hs : Sl w w.heap.size 1 byteCells A0 n0 seeds) (hl : ∀ (i : Nat) (x : Int), seeds[i]? = some x → 0 ≤ x ∧ x ≤ 255) (hnc : n0 ≤ c0) (hn : n0 ≤ 9223372036854775807) (hc : c0 ≤ 9223372036854775807)
    (hs1 : Sl w w.heap.size 2 Lk.cells A1 n1 raw) (hn1 : n1 ≤ 9223372036854775807) (hm : -9223372036854775808 ≤ m ∧ m ≤ 9223372036854775807) :
    Calls Try.prog 3 #[.slice A0 n0 c0, .int .i64 m, .slice A1 n1 c1] w fun e w' => e = .returned (.bool true) ∧ Below w.heap.size w w' := by
  have HS := Lib.hid hs
  have HR := Lib.hid hs1
  have HL := Lib.hid hl
  clear hs hl hs1
  go_enter Try.func3, Try.ntmps3
  go_wp2_with fail
  refine (sane_any _).mono ?_
  rintro e w1 ⟨rfl, hb1⟩
  have hz1 := hb1.size
  by_cases hbig : 10 < n1
  · go_wp2
    go_ret
    exact ⟨rfl, hb1⟩
  go_wp2_with fail
  refine (new_dice A0 n0 c0 seeds w1 (HS.out.up hb1) HL.out hnc hn hc).mono ?_
  rintro e w2 ⟨d, rfl, hD, hd, hb2⟩
  have hbw2 : Below w.heap.size w w2 := hb1.trans (hb2.mono hz1)
  have hdw : w.heap.size ≤ d := by omega
  go_wp2_with fail
  refine (made_any d w2 hD).mono ?_
  rintro e w3 ⟨n, A, c, l, rfl, hn20, hLst, ht3⟩
  have hbw3 : Below w.heap.size w w3 := hbw2.trans (ht3.below hdw (by have := hbw2.size; omega))
  clear hD ht3
  obtain ⟨k1, hk1⟩ : ∃ k1, k1 = m.tmod 6 := ⟨_, rfl⟩
  have HK1 := Lib.hid (show -9223372036854775808 ≤ k1 ∧ k1 ≤ 9223372036854775807 from by
    have h1 := Int.tmod_lt_of_pos m (show (0 : Int) < 6 by omega)
    have h2 := Int.lt_tmod_of_pos m (show (0 : Int) < 6 by omega)
    rw [hk1]; omega)
  obtain ⟨k2, hk2⟩ : ∃ k2, k2 = wrap64 (-1 - bits BinOp.and IntKind.i64 m 3) := ⟨_, rfl⟩
  have HK2 := Lib.hid (show -9223372036854775808 ≤ k2 ∧ k2 ≤ 9223372036854775807 from by rw [hk2]; unfold wrap64; omega)
  obtain ⟨wk, hwk⟩ : ∃ wk, wk = w3.alloc (.cells #[.int .i64 m, .int .i64 k1, .int .i64 k2, .int .i64 (-9223372036854775808)] 2) := ⟨_, rfl⟩
  have hbwk' : Below w3.heap.size w3 wk := by rw [hwk]; exact (Below.refl _ _).alloc (Nat.le_refl _) _
  have hw3 : w3.heap.size < wk.heap.size := by rw [hwk]; simp
  have HC0 := Lib.hid (show wk.cell? ⟨w3.heap.size, 0, none⟩ = some (.int .i64 m) from by rw [hwk, cell_new _ _ _ _ _ rfl]; rfl)
  have HC1 := Lib.hid (show wk.cell? ⟨w3.heap.size, 1, none⟩ = some (.int .i64 k1) from by rw [hwk, cell_new _ _ _ _ _ rfl]; rfl)
  have HC2 := Lib.hid (show wk.cell? ⟨w3.heap.size, 2, none⟩ = some (.int .i64 k2) from by rw [hwk, cell_new _ _ _ _ _ rfl]; rfl)
  have HC3 := Lib.hid (show wk.cell? ⟨w3.heap.size, 3, none⟩ = some (.int .i64 (-9223372036854775808)) from by rw [hwk, cell_new _ _ _ _ _ rfl]; rfl)
  have HLK := Lib.hid (hLst.out.below hbwk')
  have hbwk : Below w.heap.size w wk := hbw3.trans (hbwk'.mono hbw3.size)
  clear hLst hbwk'
  go_wp2_with fail
  rw [← hk1, ← hk2, ← hwk]
  have HWK := Lib.hid hwk
  have HKK := Lib.hid hk1
  have HKK2 := Lib.hid hk2
  clear hwk hk1 hk2
  go_loopw [34] (fun i wr => ∃ t : Nat, t ≤ 4 ∧ i = .int .i64 t ∧ Below wk.heap.size wk wr) (fun i _ => 4 - (intOf i).toNat)
  case atStart => exact ⟨0, by omega, rfl, Below.refl _ _⟩
  case round =>
    obtain ⟨t, ht, rfl, hbt⟩ := hrel
    have hzt := hbt.size
    by_cases hlt : t < 4
    · obtain ⟨k, hk0, hk1, ck⟩ : ∃ k : Int, -9223372036854775808 ≤ k ∧ k ≤ 9223372036854775807 ∧ wr.cell? ⟨w3.heap.size, t, none⟩ = some (.int .i64 k) := by
        match t, hlt with
        | 0, _ => exact ⟨_, hm.1, hm.2, (belc hbt hw3).trans HC0.out⟩
        | 1, _ => exact ⟨_, HK1.out.1, HK1.out.2, (belc hbt hw3).trans HC1.out⟩
        | 2, _ => exact ⟨_, HK2.out.1, HK2.out.2, (belc hbt hw3).trans HC2.out⟩
        | 3, _ => exact ⟨_, by omega, by omega, (belc hbt hw3).trans HC3.out⟩
        | t + 4, h => exact absurd h (by omega)
      have hltI : (t : Int) < 4 := by omega
      have ht0 : (0 : Int) ≤ (t : Int) := by omega
      have HL3 := Lib.hid (HLK.out.below hbt)
      have Bwr : Below wr.heap.size wr wr := Below.refl _ _
      go_wp2_with fail
      refine (take_any A n c l k wr (HL3.out.sl.up Bwr) HL3.out.asc (by omega)).mono ?_
      rintro e x1 ⟨a, na, ca, rfl, hna, hsa, hba, _, _⟩
      have Bx1 := Bwr.trans (hba.mono Bwr.size)
      have HSa := Lib.hid hsa
      have HNa := Lib.hid hna
      clear hsa hna
      go_wp2_with fail
      refine (reftake_any A n c l k x1 (HL3.out.sl.up Bx1) (HL3.out.room) (by omega)).mono ?_
      rintro e x2 ⟨b, nb, cb, rfl, hnb, hsb, hbb, _, _⟩
      have Bx2 := Bx1.trans (hbb.mono Bx1.size)
      have hu := hbb
      have HSa := Lib.hid (HSa.out.up hu)
      clear hu
      have HSb := Lib.hid hsb
      have HNb := Lib.hid hnb
      clear hsb hnb
      go_wp2_with fail
      refine (give_any A n c l k x2 (HL3.out.sl.up Bx2) HL3.out.asc (by omega)).mono ?_
      rintro e x3 ⟨g, ng, cg, rfl, hng, hsg, hbg, _, _⟩
      have Bx3 := Bx2.trans (hbg.mono Bx2.size)
      have hu := hbg
      have HSa := Lib.hid (HSa.out.up hu)
      have HSb := Lib.hid (HSb.out.up hu)
      clear hu
      have HSg := Lib.hid hsg
      have HNg := Lib.hid hng
      clear hsg hng
      go_wp2_with fail
      refine (refgive_any A n c l k x3 (HL3.out.sl.up Bx3) (HL3.out.room) (by omega)).mono ?_
      rintro e x4 ⟨h, nh, ch, rfl, hnh, hsh, hbh, _, _⟩
      have Bx4 := Bx3.trans (hbh.mono Bx3.size)
      have hu := hbh
      have HSa := Lib.hid (HSa.out.up hu)
      have HSb := Lib.hid (HSb.out.up hu)
      have HSg := Lib.hid (HSg.out.up hu)
      clear hu
      have HSh := Lib.hid hsh
      have HNh := Lib.hid hnh
      clear hsh hnh
      obtain rfl : na = nb := by rw [HNa.out, HNb.out]
      obtain rfl : ng = nh := by rw [HNg.out, HNh.out]
      have hna1 : na ≤ 1000 := by rw [HNa.out]; have := HL3.out.sl.len; have := (take_good (m := k) HL3.out.asc HL3.out.fit hk0).2.2; omega
      have hna2 : ng ≤ 1000 := by rw [HNg.out]; have := HL3.out.sl.len; have := (give_good (m := k) HL3.out.asc HL3.out.fit hk0).2.2; omega
      go_wp2_with fail
      refine (same_locks a na ca b cb _ x4 HSa.out HSb.out (by omega)).mono ?_
      rintro e x5 ⟨rfl, hbx5⟩
      have Bx5 := Bx4.trans (hbx5.mono Bx4.size)
      have HSg := Lib.hid (HSg.out.up hbx5)
      have HSh := Lib.hid (HSh.out.up hbx5)
      go_wp2_with fail
      refine (same_locks g ng cg h ch _ x5 HSg.out HSh.out (by omega)).mono ?_
      rintro e x6 ⟨rfl, hbx6⟩
      have Bx6 := Bx5.trans (hbx6.mono Bx5.size)
      go_wp2_with fail
      refine (holder_any A n c l k x6 (HL3.out.sl.up Bx6) HL3.out.asc (by omega)).mono ?_
      rintro e x7 ⟨rfl, hbx7⟩
      have Bx7 := Bx6.trans (hbx7.mono Bx6.size)
      go_wp2_with fail
      refine (refholder_any A n c l k x7 (HL3.out.sl.up Bx7) (by omega)).mono ?_
      rintro e x8 ⟨rfl, hbx8⟩
      have Bx8 := Bx7.trans (hbx8.mono Bx7.size)
      go_wp2_with fail
      refine (hold_any A n c l k x8 (HL3.out.sl.up Bx8) HL3.out.asc (by omega)).mono ?_
      rintro e y1 ⟨p, np, cp, rfl, hnp, hsp, hbp, _, _⟩
      have By1 := Bx8.trans (hbp.mono Bx8.size)
      have HSp := Lib.hid hsp
      have HNp := Lib.hid hnp
      clear hsp hnp
      go_wp2_with fail
      refine (refhold_any A n c l k y1 (HL3.out.sl.up By1) (HL3.out.room) (by omega)).mono ?_
      rintro e y2 ⟨q, nq, cq, rfl, hnq, hsq, hbq, _, _⟩
      have By2 := By1.trans (hbq.mono By1.size)
      have hu := hbq
      have HSp := Lib.hid (HSp.out.up hu)
      clear hu
      have HSq := Lib.hid hsq
      have HNq := Lib.hid hnq
      clear hsq hnq
      go_wp2_with fail
      refine (free_any A n c l k y2 (HL3.out.sl.up By2) HL3.out.asc (by omega)).mono ?_
      rintro e y3 ⟨r, nr, cr, rfl, hnr, hsr, hbr, _, _⟩
      have By3 := By2.trans (hbr.mono By2.size)
      have hu := hbr
      have HSp := Lib.hid (HSp.out.up hu)
      have HSq := Lib.hid (HSq.out.up hu)
      clear hu
      have HSr := Lib.hid hsr
      have HNr := Lib.hid hnr
      clear hsr hnr
      go_wp2_with fail
      refine (reffree_any A n c l k y3 (HL3.out.sl.up By3) (HL3.out.room) (by omega)).mono ?_
      rintro e y4 ⟨s, ns, cs, rfl, hns, hss, hbs, _, _⟩
      have By4 := By3.trans (hbs.mono By3.size)
      have hu := hbs
      have HSp := Lib.hid (HSp.out.up hu)
      have HSq := Lib.hid (HSq.out.up hu)
      have HSr := Lib.hid (HSr.out.up hu)
      clear hu
      have HSs := Lib.hid hss
      have HNs := Lib.hid hns
      clear hss hns
      obtain rfl : np = nq := by rw [HNp.out, HNq.out]
      obtain rfl : nr = ns := by rw [HNr.out, HNs.out]
      have hna3 : np ≤ 1000 := by rw [HNp.out]; have := HL3.out.sl.len; have := (hold_good (m := k) HL3.out.asc HL3.out.fit hk0).2.2; omega
      have hna4 : nr ≤ 1000 := by rw [HNr.out]; have := HL3.out.sl.len; have := (free_good (m := k) HL3.out.asc HL3.out.fit hk0).2.2; omega
      go_wp2_with fail
      refine (same_locks p np cp q cq _ y4 HSp.out HSq.out (by omega)).mono ?_
      rintro e y5 ⟨rfl, hby5⟩
      have By5 := By4.trans (hby5.mono By4.size)
      have HSr := Lib.hid (HSr.out.up hby5)
      have HSs := Lib.hid (HSs.out.up hby5)
      go_wp2_with fail
      refine (same_locks r nr cr s cs _ y5 HSr.out HSs.out (by omega)).mono ?_
      rintro e y6 ⟨rfl, hby6⟩
      have By6 := By5.trans (hby6.mono By5.size)
      go_wp2
      go_roundw
      case rel => exact ⟨t + 1, by omega, by go_num, hbt.trans (By6.mono hbt.size)⟩
      case measure => simp [intOf]; omega
    · obtain rfl : t = 4 := by omega
      have HL3 := Lib.hid (HLK.out.below hbt)
      go_wp2_with fail
      refine (lock_valid A n c l wr HL3.out.sl (by omega)).mono ?_
      rintro e z1 ⟨rfl, hz1'⟩
      rw [valid_good HL3.out.asc HL3.out.fit]
      have hbz1 := hbwk.trans (hbt.trans (hz1'.mono hbt.size) |>.mono hbwk.size)
      go_wp2_with fail
      refine (lock_valid A1 n1 c1 raw z1 (HR.out.up hbz1) (by omega)).mono ?_
      rintro e z2 ⟨rfl, hz2'⟩
      have hbz2 := hbz1.trans (hz2'.mono hbz1.size)
      go_wp2_with fail
      refine (speculateref34_valid A1 n1 c1 raw z2 (HR.out.up hbz2) (by omega)).mono ?_
      rintro e z3 ⟨rfl, hz3'⟩
      have hbz3 := hbz2.trans (hz3'.mono hbz2.size)
      go_wp2
      go_ret
      exact ⟨by simp, hbz3⟩
end Go.Proofs.Ytkagaelhlghagaa
