/- LedgerParts, walked. -/
import Derived.Test.YtignbncphdemlaaQ
import Derived.Test.YtignbncphdemlaaDice
import Derived.Test.YtignbncphdemlaaSameA
import Derived.Deep.RegionHeld3
namespace Go.Proofs.Ytignbncphdemlaa
open Go.RowKit

set_option maxRecDepth 100000 in
set_option maxHeartbeats 4000000 in
theorem parts_any (A0 : Option Addr) (n0 c0 : Nat) (seeds : List Int) (cause : Int) (w : World) (hs : Sl w w.heap.size 1 byteCells A0 n0 seeds) (hl : ∀ (i : Nat) (x : Int), seeds[i]? = some x → 0 ≤ x ∧ x ≤ 255) (hnc : n0 ≤ c0) (hn : n0 ≤ 9223372036854775807) (hc : c0 ≤ 9223372036854775807) (hcause : -9223372036854775808 ≤ cause ∧ cause ≤ 9223372036854775807) :
    Calls Try.prog 3 #[.slice A0 n0 c0, .int .i64 cause] w fun e w' => e = .returned (.bool true) ∧ Below w.heap.size w w' := by
  obtain ⟨i0, hi, iz0, iz1, iz2⟩ := info_parts CloneShr.infoE
  have HS := Lib.hid hs
  have HL := Lib.hid hl
  have HC := Lib.hid hcause
  clear hs hl hcause
  go_enter Try.func3, Try.ntmps3
  go_wp2_with fail
  refine (sane_any _).mono ?_
  rintro e w1 ⟨rfl, hb1⟩
  have hz1 := hb1.size
  go_wp2_with fail
  refine (new_dice A0 n0 c0 seeds w1 (HS.out.up hb1) HL.out hnc hn hc).mono ?_
  rintro e w2 ⟨d, rfl, hD, hd, hb2⟩
  have hbw2 : Below w.heap.size w w2 := hb1.trans (hb2.mono hz1)
  have hdw : w.heap.size ≤ d := by omega
  go_wp2_with fail
  refine (range_any d 1 4 w2 hD (by omega) (by omega)).mono ?_
  rintro e w3 ⟨n, hn1, hn4, rfl, ht3, hz3⟩
  have hbw3 : Below w.heap.size w w3 := hbw2.trans (ht3.below hdw (by have := hbw2.size; omega))
  go_wp2_with fail
  refine (new_any n w3 hn1 (by omega)).mono ?_
  rintro e w4 ⟨A, c, rfl, hs4, hb4, hlo4⟩
  have hbw4 : Below w.heap.size w w4 := hbw3.trans (hb4.mono hbw3.size)
  have hD4 := ht3.dice.below hb4
  have hL4 : Lv w4 d 8 Acc.cells A n (List.replicate n zero) := Lv.mk' (by rwa [List.length_replicate] at hs4) ht3.dice (by rwa [List.length_replicate] at hlo4)
  rw [List.length_replicate]
  go_wp2_with fail
  refine (pick_any d 30 w4 hD4 (by omega) (by omega)).mono ?_
  rintro e w5 ⟨r, hr, rfl, ht5, hz5⟩
  have hbw5 : Below w.heap.size w w5 := hbw4.trans (ht5.below hdw (by have := hbw4.size; omega))
  have HL5 := Lib.hid (hL4.thrown ht5)
  have HD5 := Lib.hid ht5.dice
  clear hL4 hs4 hlo4 hD4 hD
  go_wp2_with fail
  go_loopw [6, 8, 9, 10] (fun s6 s8 s9 s10 wr => ∃ (q k : Nat) (A : Option Addr) (c : Nat) (A8 : Option Addr) (n8 c8 : Nat) (A9 : Option Addr) (n9 c9 : Nat) (l : List Acc) (a b : List Shr), q + k ≤ 30 ∧ s10 = .int .i64 k ∧ s6 = .slice A n c ∧ s8 = .slice A8 n8 c8 ∧ s9 = .slice A9 n9 c9 ∧ n8 = a.length ∧ n9 = b.length ∧ Hid (Inv n q l a b) ∧ Hid (Lv wr d 8 Acc.cells A n l) ∧ Hid (Lv wr d 2 Shr.cells A8 n8 a) ∧ Hid (Lv wr d 2 Shr.cells A9 n9 b) ∧ Hid (Dice wr d) ∧ Below w.heap.size w wr) (fun _ _ _ k _ => (intOf k).toNat)
  case atStart => exact ⟨0, r, A, c, none, 0, 0, none, 0, 0, _, [], [], by omega, rfl, rfl, rfl, rfl, rfl, rfl, Lib.hid (inv_zero n), HL5, Lib.hid Lv.nil, Lib.hid Lv.nil, HD5, hbw5⟩
  case round =>
    obtain ⟨q, k, A, c, A8, n8, c8, A9, n9, c9, l, a, b, hqk, rfl, rfl, rfl, rfl, hn8, hn9, hI, hLl, hLa, hLb, hD, hb⟩ := hrel
    have HN8 := Lib.hid hn8
    have HN9 := Lib.hid hn9
    have h8 : n8 ≤ 30 := by have := hI.out.la; omega
    have h9 : n9 ≤ 30 := by have := hI.out.lb; omega
    clear hn8 hn9
    have hzz := hb.size
    by_cases hk : 0 < k
    · go_wp2_with fail
      refine (pick_any d n wr hD.out hn1 (by omega)).mono ?_
      rintro e x1 ⟨p, hp, rfl, t1, y1⟩
      have b1 : Below w.heap.size w x1 := hb.trans (t1.below hdw hzz)
      have l1 := hLl.out.thrown t1
      have a1 := hLa.out.thrown t1
      have e1 := hLb.out.thrown t1
      go_wp2_with fail
      refine (step_any A n c l p x1 l1.sl (by omega) (hI.out.ok.le (by omega))).mono ?_
      have hst : stepE l p = (stepA l p, 0) := by rw [stepE, hI.out.len, inB_true (by omega) (by omega)]; rfl
      have hln : (stepA l p).length = n := (step_len l p).trans hI.out.len
      rw [hst]
      rintro e x2 ⟨A2, c2, rfl, s2, bb2, lo2⟩
      simp only [hln] at s2 lo2 ⊢
      have D2 := t1.dice.below bb2
      have b2 : Below w.heap.size w x2 := b1.trans (bb2.mono b1.size)
      have l2 : Lv x2 d 8 Acc.cells A2 n (stepA l p) := Lv.mk' s2 t1.dice lo2
      have a2 := a1.below bb2
      have e2 := e1.below bb2
      go_wp2_with fail
      refine (pick_any d 2 x2 D2 (by omega) (by omega)).mono ?_
      rintro e x3 ⟨u, hu, rfl, t3, y3⟩
      have b3 : Below w.heap.size w x3 := b2.trans (t3.below hdw b2.size)
      have l3 := Lib.hid (l2.thrown t3)
      have a3 := Lib.hid (a2.thrown t3)
      have e3 := Lib.hid (e2.thrown t3)
      have D3 := Lib.hid t3.dice
      clear l1 a1 e1 l2 a2 e2 D2 s2 lo2 t1 t3 hst
      by_cases hu0 : u = 0
      · subst hu0
        go_wp2_with fail
        refine (add_any A8 n8 c8 a p x3 a3.out.sl (by omega) (okS_of hI.out.fa hI.out.sa (by omega))).mono ?_
        rintro e x4 ⟨A4, n4, c4, rfl, hn4, s4, bb4, lo4⟩
        have HN4 := Lib.hid hn4
        clear hn4
        have b4 : Below w.heap.size w x4 := b3.trans (bb4.mono b3.size)
        have l4 := Lib.hid (l3.out.below bb4)
        have e4 := Lib.hid (e3.out.below bb4)
        have D4 := Lib.hid (D3.out.below bb4)
        have a4 : Hid (Lv x4 d 2 Shr.cells A4 n4 (addS a p)) := Lib.hid (Lv.mk' s4 D3.out lo4)
        clear s4 lo4
        go_wp2
        go_roundw
        case rel => exact ⟨q + 1, k - 1, A2, c2, A4, n4, c4, A9, n9, c9, _, _, _, by omega, by go_num, rfl, rfl, rfl, HN4.out, HN9.out, Lib.hid (hI.out.a hp), l4, a4, e4, D4, b4⟩
        case measure => simp [intOf]; omega
      · obtain rfl : u = 1 := by omega
        go_wp2_with fail
        refine (add_any A9 n9 c9 b p x3 e3.out.sl (by omega) (okS_of hI.out.fb hI.out.sb (by omega))).mono ?_
        rintro e x4 ⟨A4, n4, c4, rfl, hn4, s4, bb4, lo4⟩
        have HN4 := Lib.hid hn4
        clear hn4
        have b4 : Below w.heap.size w x4 := b3.trans (bb4.mono b3.size)
        have l4 := Lib.hid (l3.out.below bb4)
        have a4 := Lib.hid (a3.out.below bb4)
        have D4 := Lib.hid (D3.out.below bb4)
        have e4 : Hid (Lv x4 d 2 Shr.cells A4 n4 (addS b p)) := Lib.hid (Lv.mk' s4 D3.out lo4)
        clear s4 lo4
        go_wp2
        go_roundw
        case rel => exact ⟨q + 1, k - 1, A2, c2, A8, n8, c8, A4, n4, c4, _, _, _, by omega, by go_num, rfl, rfl, rfl, HN8.out, HN4.out, Lib.hid (hI.out.b hp), l4, a4, e4, D4, b4⟩
        case measure => simp [intOf]; omega
    · obtain rfl : k = 0 := by omega
      go_wp2_with fail
      refine (mod_any cause 6 wr (by omega) (by omega) HC.out).mono ?_
      rintro e x1 ⟨z, hz, -, rfl, b1⟩
      have bw1 : Below w.heap.size w x1 := hb.trans (b1.mono hzz)
      have P := hI.out.parts (c := z) (by omega) hz
      have HP := Lib.hid P
      have hln : l.length = n := hI.out.len
      have HLN := Lib.hid hln
      clear P hln
      have loz : ∀ (l' : List Acc) (s : List Shr), loseE (z : Int) l' s = moveE (1 + z) l' s := fun l' s => by rw [loseE, if_pos (by omega)]; rfl
      have HZ := Lib.hid loz
      clear loz
      have L1 := Lib.hid (hLl.out.sl.up b1)
      have La1 := Lib.hid (hLa.out.sl.up b1)
      have Lb1 := Lib.hid (hLb.out.sl.up b1)
      go_wp2_with fail
      refine (keep_any A n c l A8 n8 c8 a x1 L1.out La1.out (by omega) (by omega) (hI.out.ok.le (by omega))).mono ?_
      rw [HP.out.x]
      rintro e x2 ⟨Ax, cx, rfl, sx, b2, _⟩
      simp only [mvAll_len, HLN.out] at sx ⊢
      have bw2 : Below w.heap.size w x2 := bw1.trans (b2.mono bw1.size)
      have X2 := Lib.hid sx
      have L2 := Lib.hid (L1.out.up b2)
      have La2 := Lib.hid (La1.out.up b2)
      have Lb2 := Lib.hid (Lb1.out.up b2)
      clear sx L1 La1 Lb1
      go_wp2_with fail
      refine (lose_any Ax n cx _ z A9 n9 c9 b x2 X2.out Lb2.out (by omega) (by omega) HP.out.okx).mono ?_
      rw [HZ.out, HP.out.y]
      rintro e x3 ⟨Ay, cy, rfl, sy, b3, _⟩
      simp only [mvAll_len, HLN.out] at sy ⊢
      have bw3 : Below w.heap.size w x3 := bw2.trans (b3.mono bw2.size)
      have Y3 := Lib.hid sy
      have L3 := Lib.hid (L2.out.up b3)
      have La3 := Lib.hid (La2.out.up b3)
      have Lb3 := Lib.hid (Lb2.out.up b3)
      clear sy L2 La2 Lb2 X2
      go_wp2_with fail
      refine (lose_any A n c _ z A9 n9 c9 b x3 L3.out Lb3.out (by omega) (by omega) (hI.out.ok.le (by omega))).mono ?_
      rw [HZ.out, HP.out.z]
      rintro e x4 ⟨Az, cz, rfl, sz, b4, _⟩
      simp only [mvAll_len, HLN.out] at sz ⊢
      have bw4 : Below w.heap.size w x4 := bw3.trans (b4.mono bw3.size)
      have Z4 := Lib.hid sz
      have Y4 := Lib.hid (Y3.out.up b4)
      have L4 := Lib.hid (L3.out.up b4)
      have La4 := Lib.hid (La3.out.up b4)
      have Lb4 := Lib.hid (Lb3.out.up b4)
      clear sz L3 La3 Lb3 Y3
      go_wp2_with fail
      refine (keep_any Az n cz _ A8 n8 c8 a x4 Z4.out La4.out (by omega) (by omega) HP.out.okz).mono ?_
      rw [HP.out.w]
      rintro e x5 ⟨Aw, cw, rfl, sw, b5, _⟩
      simp only [mvAll_len, HLN.out] at sw ⊢
      have bw5 : Below w.heap.size w x5 := bw4.trans (b5.mono bw4.size)
      have W5 := Lib.hid sw
      have Y5 := Lib.hid (Y4.out.up b5)
      have L5 := Lib.hid (L4.out.up b5)
      have La5 := Lib.hid (La4.out.up b5)
      have Lb5 := Lib.hid (Lb4.out.up b5)
      clear sw L4 La4 Lb4 Y4 Z4
      have hab : Below x5.heap.size x5 (x5.alloc (.cells #[] 46)) := (by repeat (first | (with_reducible exact (Below.refl _ _)) | (with_reducible refine Below.drew ?_) | (with_reducible refine below_drewN ?_ _) | (with_reducible refine Below.setCell ?_ ?_ _; rotate_left; (first | omega | (simp <;> omega))) | (with_reducible refine Below.alloc ?_ ?_ _; rotate_left; (first | omega | (simp <;> omega)))))
      have HSa := Lib.hid (Sl.src (La5.out.below hab) Shr.size)
      have HLa := Lib.hid (show (a.flatMap Shr.cells).length = n8 * 2 from by rw [flat_len Shr.size, La5.out.len])
      have HLb := Lib.hid (show (b.flatMap Shr.cells).length = n9 * 2 from by rw [flat_len Shr.size, Lb5.out.len])
      have HR := Lib.hid (World.ownsRow_made (e := 46) (size := 2) x5 #[] 0 (Nat.le_refl _) (by unfold maxLen; omega) rfl)
      go_wp2_with (at_builtin; first
        | (refine wpList_append_any rfl _ _ 31 rfl x5.heap.size 46 i0 _ 2 16 Try.underlying31 hi iz0 iz1 iz2 rfl (by decide) (.slice (some ⟨x5.heap.size, 0, none⟩) 0 0) 0 [] rfl HR.out A8 n8 c8 (a.flatMap Shr.cells) rfl HSa.out.1 HLa.out HSa.out.2 (shr_one a) (by unfold maxLen; omega) (by omega) (by simp) ?_; intro A6 c6 x6 own6 gr6 _; have b6 : Below x5.heap.size x5 x6 := hab.grown gr6 (by simp) (fun j hj => by simp [Value.ownBlock] at hj; omega); have HSb := Lib.hid (Sl.src (Lb5.out.below b6) Shr.size); have O6 := Lib.hid own6; clear own6 gr6)
        | (refine wpList_append_any rfl _ _ 31 rfl x5.heap.size 46 i0 _ 2 16 Try.underlying31 hi iz0 iz1 iz2 rfl (by decide) (.slice A6 (0 + n8) c6) (0 + n8) ([] ++ a.flatMap Shr.cells) (by simp [Act.eval]) O6.out A9 n9 c9 (b.flatMap Shr.cells) rfl HSb.out.1 HLb.out HSb.out.2 (shr_one b) (by unfold maxLen; omega) (by omega) b6.size ?_; intro A7 c7 x7 own7 gr7 _; have b7 : Below x5.heap.size x5 x7 := b6.grown gr7 b6.size (fun g hg => (own_block_lt O6.out hg).1); have O7 := Lib.hid own7; clear own7 gr7))
      have S7 := Lib.hid (Sl.of_own Shr.size (l := a ++ b) (by rw [List.length_append, La5.out.len, Lb5.out.len]; omega) (show x7.ownsRow x5.heap.size 46 2 (.slice A7 (0 + n8 + n9) c7) (0 + n8 + n9) ((a ++ b).flatMap Shr.cells) from by have := O7.out; simpa using this))
      have bw7 : Below w.heap.size w x7 := bw5.trans (b7.mono bw5.size)
      have L7 := Lib.hid (L5.out.up b7)
      have La7 := Lib.hid (La5.out.up b7)
      have Lb7 := Lib.hid (Lb5.out.up b7)
      have W7 := Lib.hid (W5.out.up b7)
      have Y7 := Lib.hid (Y5.out.up b7)
      have h89 : 0 + n8 + n9 ≤ 60 := by omega
      rw [Nat.zero_add] at S7
      go_wp2_with fail
      refine (keep_any A n c l A7 (n8 + n9) c7 (a ++ b) x7 L7.out S7.out (by omega) (by omega) (hI.out.ok.le (by omega))).mono ?_
      rw [HP.out.both]
      rintro e x8 ⟨Ab, cb, rfl, st, b8, _⟩
      simp only [mvAll_len, HLN.out] at st ⊢
      have bw8 : Below w.heap.size w x8 := bw7.trans (b8.mono bw7.size)
      have T8 := Lib.hid st
      have W8 := Lib.hid (W7.out.up b8)
      have Y8 := Lib.hid (Y7.out.up b8)
      have L8 := Lib.hid (L7.out.up b8)
      have La8 := Lib.hid (La7.out.up b8)
      have Lb8 := Lib.hid (Lb7.out.up b8)
      clear st L7 La7 Lb7 Y7 W7 S7
      go_wp2_with fail
      refine (keep_any A n c l A9 n9 c9 b x8 L8.out Lb8.out (by omega) (by omega) (hI.out.ok.le (by omega))).mono ?_
      rw [HP.out.p]
      rintro e x9 ⟨Ap, cp, rfl, sp, b9, _⟩
      simp only [mvAll_len, HLN.out] at sp ⊢
      have bw9 : Below w.heap.size w x9 := bw8.trans (b9.mono bw8.size)
      have P9 := Lib.hid sp
      have T9 := Lib.hid (T8.out.up b9)
      have W9 := Lib.hid (W8.out.up b9)
      have Y9 := Lib.hid (Y8.out.up b9)
      have La9 := Lib.hid (La8.out.up b9)
      have Lb9 := Lib.hid (Lb8.out.up b9)
      clear sp L8 La8 Lb8 Y8 W8 T8
      go_wp2_with fail
      refine (keep_any Ap n cp _ A8 n8 c8 a x9 P9.out La9.out (by omega) (by omega) HP.out.okp).mono ?_
      rw [HP.out.q]
      rintro e x10 ⟨Aq, cq, rfl, sq, b10, _⟩
      simp only [mvAll_len, HLN.out] at sq ⊢
      have bw10 : Below w.heap.size w x10 := bw9.trans (b10.mono bw9.size)
      have Q10 := Lib.hid sq
      have T10 := Lib.hid (T9.out.up b10)
      have W10 := Lib.hid (W9.out.up b10)
      have Y10 := Lib.hid (Y9.out.up b10)
      have La10 := Lib.hid (La9.out.up b10)
      have Lb10 := Lib.hid (Lb9.out.up b10)
      clear sq La9 Lb9 Y9 W9 T9 P9
      go_wp2_with fail
      refine (same_accounts Ay n cy Aw cw _ x10 Y10.out W10.out (by omega)).mono ?_
      rintro e x11 ⟨rfl, b11⟩
      have bw11 : Below w.heap.size w x11 := bw10.trans (b11.mono bw10.size)
      have Q11 := Lib.hid (Q10.out.up b11)
      have T11 := Lib.hid (T10.out.up b11)
      have Y11 := Lib.hid (Y10.out.up b11)
      have La11 := Lib.hid (La10.out.up b11)
      have Lb11 := Lib.hid (Lb10.out.up b11)
      clear Q10 T10 W10 Y10 La10 Lb10
      go_wp2_with fail
      refine (same_accounts Ab n cb Aq cq _ x11 T11.out Q11.out (by omega)).mono ?_
      rintro e x12 ⟨rfl, b12⟩
      have bw12 : Below w.heap.size w x12 := bw11.trans (b12.mono bw11.size)
      have Y12 := Lib.hid (Y11.out.up b12)
      have La12 := Lib.hid (La11.out.up b12)
      have Lb12 := Lib.hid (Lb11.out.up b12)
      clear Q11 T11 Y11 La11 Lb11
      go_wp2_with fail
      refine (totals_any Ay n cy _ x12 Y12.out (by omega) HP.out.oky).mono ?_
      rintro e x13 ⟨rfl, b13⟩
      have bw13 : Below w.heap.size w x13 := bw12.trans (b13.mono bw12.size)
      have La13 := Lib.hid (La12.out.up b13)
      have Lb13 := Lib.hid (Lb12.out.up b13)
      clear Y12 La12 Lb12
      obtain ⟨V, hV⟩ : ∃ V, V = totF (mvAll (1 + z) b (mvAll 0 a l)) := ⟨_, rfl⟩
      rw [← hV]
      have v0 : Hid (V 0 = sumS a) := Lib.hid (by rw [hV]; exact HP.out.t0)
      have v1 : Hid (V (1 + z) = sumS b) := Lib.hid (by rw [hV]; exact HP.out.t1)
      have v7 : V 7 = 0 := by rw [hV]; exact HP.out.t7
      clear hV
      obtain ⟨wd, hwd⟩ : ∃ wd, wd = x13.alloc (.cells #[.int .i64 (V 0), .int .i64 (V 1), .int .i64 (V 2), .int .i64 (V 3), .int .i64 (V 4), .int .i64 (V 5), .int .i64 (V 6), .int .i64 (V 7)] 41) := ⟨_, rfl⟩
      have hbd : Below x13.heap.size x13 wd := by rw [hwd]; exact (by repeat (first | (with_reducible exact (Below.refl _ _)) | (with_reducible refine Below.drew ?_) | (with_reducible refine below_drewN ?_ _) | (with_reducible refine Below.setCell ?_ ?_ _; rotate_left; (first | omega | (simp <;> omega))) | (with_reducible refine Below.alloc ?_ ?_ _; rotate_left; (first | omega | (simp <;> omega)))))
      have hlt : x13.heap.size < wd.heap.size := by rw [hwd]; simp
      have hAt : At wd x13.heap.size V := by rw [hwd]; exact At.mk' (fun j u hu => by rw [cell_new _ _ _ _ _ rfl, ← Array.getElem?_toList]; exact hu)
      have q0 : wd.cell? ⟨x13.heap.size, 0, none⟩ = some (.int .i64 (sumS a)) := by rw [← v0.out]; exact hAt 0 (by omega)
      have q1 : wd.cell? ⟨x13.heap.size, 1 + z, none⟩ = some (.int .i64 (sumS b)) := by rw [← v1.out]; exact hAt (1 + z) (by omega)
      have q7 : wd.cell? ⟨x13.heap.size, 7, none⟩ = some (.int .i64 0) := by rw [← v7]; exact hAt 7 (by omega)
      have Lad : Sl wd.drew wd.drew.heap.size 2 Shr.cells A8 n8 a := La13.out.up (Below.drew hbd)
      have Lbd : Sl wd.drew wd.drew.heap.size 2 Shr.cells A9 n9 b := Lb13.out.up (Below.drew hbd)
      have LAD := Lib.hid Lad
      have LBD := Lib.hid Lbd
      have BWD := Lib.hid (show Below w.heap.size w wd from bw13.trans (hbd.mono bw13.size))
      have OKA := Lib.hid (okS_of hI.out.fa hI.out.sa (by omega))
      have OKB := Lib.hid (okS_of hI.out.fb hI.out.sb (by omega))
      clear hAt Lad Lbd v0 v1 v7
      unfold Acc.value
      go_wp2_with fail
      rw [← hwd]
      have HWD := Lib.hid hwd
      clear hwd
      have zi0 : (0 : Int) ≤ (z : Int) := by omega
      have zi6 : (z : Int) < 6 := by omega
      have zt : (z : Int).toNat = z := rfl
      go_region_held3 (fun w' => w'.cell? ⟨x13.heap.size, 0, none⟩ = some (.int .i64 (sumS a)) ∧ w'.cell? ⟨x13.heap.size, 1 + z, none⟩ = some (.int .i64 (sumS b)) ∧ w'.cell? ⟨x13.heap.size, 7, none⟩ = some (.int .i64 0))
        (first | exact ⟨q0, q1, q7⟩ | exact ⟨p0, p1, p7⟩ | exact ⟨r0, r1, r7⟩)
        (first
          | (go_at_call_of 18 (Value.slice A8 n8 c8); refine (sum_any A8 n8 c8 a wd.drew LAD.out (by omega) OKA.out).mono ?_; rintro e x14 ⟨rfl, d14⟩; have b14 : Below wd.heap.size wd x14 := (Below.drew (Below.refl _ _)).trans d14; have z14 := b14.size; have p0 := (belc b14 hlt).trans q0; have p1 := (belc b14 hlt).trans q1; have p7 := (belc b14 hlt).trans q7; have LBE := Lib.hid (LBD.out.up d14))
          | (go_at_call_of 18 (Value.slice A9 n9 c9); refine (sum_any A9 n9 c9 b x14 LBE.out (by omega) OKB.out).mono ?_; rintro e x15 ⟨rfl, b15⟩; have b15 : Below wd.heap.size wd x15 := b14.trans (b15.mono z14); have r0 := (belc b15 hlt).trans q0; have r1 := (belc b15 hlt).trans q1; have r7 := (belc b15 hlt).trans q7))
      all_goals
        go_wp2
        go_ret
        exact ⟨rfl, BWD.out.trans (b15.mono BWD.out.size)⟩
end Go.Proofs.Ytignbncphdemlaa
