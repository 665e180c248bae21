/- LedgerAdds, walked. -/
import Derived.Test.YtignbncphdemlaaAA
import Derived.Deep.RegionHeld3
namespace Go.Proofs.Ytignbncphdemlaa
open Go.RowKit

set_option maxRecDepth 100000 in
set_option maxHeartbeats 8000000 in
theorem adds_any (A0 : Option Addr) (n0 c0 : Nat) (seeds : List Int) (w : World) (hs : Sl w w.heap.size 1 byteCells A0 n0 seeds) (hl : ∀ (i : Nat) (x : Int), seeds[i]? = some x → 0 ≤ x ∧ x ≤ 255) (hnc : n0 ≤ c0) (hn : n0 ≤ 9223372036854775807) (hc : c0 ≤ 9223372036854775807) :
    Calls Try.prog 5 #[.slice A0 n0 c0] w fun e w' => e = .returned (.bool true) ∧ Below w.heap.size w w' := by
  obtain ⟨i0, hi, iz0, iz1, iz2⟩ := info_parts infoJ
  have HS := Lib.hid hs
  have HL := Lib.hid hl
  clear hs hl
  go_enter Try.func5, Try.ntmps5
  go_wp2_with fail
  refine (sane_any _).mono ?_
  rintro e w1 ⟨rfl, hb1⟩
  have hz1 := hb1.size
  go_wp2_with fail
  refine (new_dice A0 n0 c0 seeds w1 (HS.out.up hb1) HL.out hnc hn hc).mono ?_
  rintro e w2 ⟨d, rfl, hD, hd, hb2⟩
  have hbw2 : Below w.heap.size w w2 := hb1.trans (hb2.mono hz1)
  have hdw : w.heap.size ≤ d := by omega
  go_wp2_with fail
  refine (range_any d 1 4 w2 hD (by omega) (by omega)).mono ?_
  rintro e w3 ⟨n, hn1, hn4, rfl, ht3, -⟩
  have hbw3 : Below w.heap.size w w3 := hbw2.trans (ht3.below hdw (by have := hbw2.size; omega))
  go_wp2_with fail
  refine (new_any n w3 hn1 (by omega)).mono ?_
  rintro e w4 ⟨A, c, rfl, hs4, hb4, hlo4⟩
  have hbw4 : Below w.heap.size w w4 := hbw3.trans (hb4.mono hbw3.size)
  have hD4 := ht3.dice.below hb4
  rw [List.length_replicate] at hs4 hlo4 ⊢
  have hL4 : Lx w4 d none 8 Acc.cells A n (List.replicate n zero) := Lx.fresh hs4 ht3.dice.lt (fun g h => by cases h) hlo4
  obtain ⟨SB, hSB⟩ : ∃ SB, SB = w4.heap.size := ⟨_, rfl⟩
  obtain ⟨base, hbase⟩ : ∃ base, base = SB + 1 := ⟨_, rfl⟩
  obtain ⟨w5, hw5⟩ : ∃ w5, w5 = w4.alloc (.cells #[.int .i64 0, .int .i64 0, .int .i64 0, .int .i64 0, .int .i64 0, .int .i64 0, .int .i64 0, .int .i64 0] 54) := ⟨_, rfl⟩
  have hb5 : Below w4.heap.size w4 w5 := by rw [hw5]; exact (Below.refl _ _).alloc (Nat.le_refl _) _
  have hz5 : w5.heap.size = base := by rw [hw5, hbase, hSB]; simp
  have HA5 := Lib.hid (show At w5 SB zero from At.mk' (fun j u hu => by rw [hw5, hSB, cell_new _ _ _ _ _ rfl, ← Array.getElem?_toList]; exact hu))
  have HF5 := Lib.hid (show ∀ j, w5.frozen? ⟨SB, j, none⟩ = false from fun j => by rw [hw5, hSB, frozen_new _ _ _ _ _ rfl])
  have HL5 := Lib.hid (hL4.below hb5)
  have HD5 := Lib.hid (hD4.below hb5)
  have hbw5 : Below w.heap.size w w5 := hbw4.trans (hb5.mono hbw4.size)
  have hdSB : d < SB := by have := hD4.lt; omega
  have hwSB : w.heap.size ≤ SB := by have := hbw4.size; omega
  clear hL4 hs4 hlo4 hD4 hD ht3 hb5
  go_wp2_with fail
  rw [← hw5]
  have HW5 := Lib.hid hw5
  have HSB' := Lib.hid hSB
  rw [← hSB]
  clear hw5 hSB
  go_loopw [4, 7, 8] (fun s4 s7 s8 wr => ∃ (k q : Nat) (A : Option Addr) (c : Nat) (JA : Option Addr) (jn jc : Nat) (l : List Acc) (js : List Job) (st : Acc), k ≤ 40 ∧ q ≤ k ∧ s8 = .int .i64 k ∧ s4 = .slice A n c ∧ s7 = .slice JA jn jc ∧ jn ≤ k ∧ Hid (js.length = jn) ∧ Hid (JInv n q l js) ∧ Hid (Did l st) ∧ Hid (Lx wr d (blkOf JA) 8 Acc.cells A n l) ∧ Hid (Row wr base 1 JA jn jc (js.flatMap Job.cells)) ∧ Hid (Jobs wr d (blkOf JA) n q js) ∧ Hid (Above SB js) ∧ Hid (At wr SB st) ∧ Hid (∀ j, wr.frozen? ⟨SB, j, none⟩ = false) ∧ Hid (Dice wr d) ∧ Below w.heap.size w wr ∧ base ≤ wr.heap.size) (fun _ _ k _ => 40 - (intOf k).toNat)
  case atStart => exact ⟨0, 0, A, c, none, 0, 0, _, [], zero, by omega, by omega, rfl, rfl, rfl, by omega, Lib.hid rfl, Lib.hid (jinv_zero n), Lib.hid (did_zero n), HL5, Lib.hid Row.nil, Lib.hid (fun j hj => by simp at hj), Lib.hid (fun j hj => by simp at hj), HA5, HF5, HD5, hbw5, by omega⟩
  case round =>
    obtain ⟨k, q, A, c, JA, jn, jc, l, js, st, hk, hqk, rfl, rfl, rfl, hjn, hjl, hI, hDi, hL, hR, hJ, hAb, hAt, hFz, hDc, hB, hZ⟩ := hrel
    by_cases hk40 : k < 40
    · go_wp2_with fail
      refine (pick_any d 6 wr hDc.out (by omega) (by omega)).mono ?_
      rintro e x1 ⟨p, hp, rfl, t1, y1⟩
      have hlt0 : SB < wr.heap.size := by omega
      have hne0 : SB ≠ d := by omega
      have D1 := Lib.hid t1.dice
      have L1 := Lib.hid (hL.out.thrown t1)
      have J1 := Lib.hid (hJ.out.thrown t1)
      have hjx : ∀ g, blkOf JA = some g → base ≤ g := fun g hg => (hR.out.block hg).1
      have R1 := Lib.hid (hR.out.kept t1.grown (fun g hg e => by have := hjx g hg; injection e with e; omega))
      have S1 := Lib.hid (show At x1 SB st from fun j hj => (t1.cell hlt0 hne0).trans (hAt.out j hj))
      have F1 := Lib.hid (show ∀ j, x1.frozen? ⟨SB, j, none⟩ = false from fun j => (t1.frozen hlt0 hne0).trans (hFz.out j))
      have B1 : Below w.heap.size w x1 := hB.trans (t1.below hdw hB.size)
      have HJX := Lib.hid hjx
      have Z1 : base ≤ x1.heap.size := by have := t1.size; omega
      clear t1 hL hJ hR hjx hAt hFz hDc hB hZ
      by_cases hp0 : p = 0
      · subst hp0
        have b2 : Below x1.heap.size x1 (x1.alloc (.cells #[.slice none 0 0] 31)) := (by repeat (first | (with_reducible exact (Below.refl _ _)) | (with_reducible refine Below.drew ?_) | (with_reducible refine below_drewN ?_ _) | (with_reducible refine Below.setCell ?_ ?_ _; rotate_left; (first | omega | (simp <;> omega))) | (with_reducible refine Below.alloc ?_ ?_ _; rotate_left; (first | omega | (simp <;> omega)))))
        have R2 := Lib.hid (R1.out.below b2)
        have L2 := Lib.hid (L1.out.below b2)
        have J2 := Lib.hid (J1.out.below b2)
        go_wp2_with (at_builtin; refine wpList_append_row rfl _ _ 47 rfl base 31 i0 _ 1 24 Try.underlying47 hi iz0 iz1 iz2 rfl (by decide) JA jn jc (js.flatMap Job.cells) (by simp [Act.eval]) R2.out (some ⟨x1.heap.size, 0, none⟩) 1 1 [.slice none 0 0] (by simp [Act.eval]) (by intro h; cases h) rfl (fun ad h j' u hu => by injection h with h; subst h; rw [Addr.add_lit, cell_new _ _ _ _ _ rfl, Nat.zero_add, ← Array.getElem?_toList]; exact hu) (by simp [Value.oneCell']) (by unfold maxLen; omega) (by omega) (by simp; omega) ?_; intro A3 c3 x3 row3 gr3 or3; have L3 := Lib.hid (L2.out.grown gr3 or3); have J3 := Lib.hid (J2.out.grown gr3 or3); have b3 : Below base x1 x3 := (((Below.refl _ _).alloc Z1 _)).grown gr3 (by simp; omega) HJX.out; have D3 := Lib.hid ((D1.out.below b2).grown gr3 (fun g hg => by have := HJX.out g hg; omega)); have R3 := Lib.hid row3; clear row3 gr3 or3)
        go_roundw
        case rel => exact ⟨k + 1, q, A, c, A3, jn + 1, c3, l, js ++ [⟨none, 0, 0, []⟩], st, by omega, by omega, by go_num, rfl, rfl, by omega, Lib.hid (by rw [List.length_append, hjl.out]; rfl), Lib.hid hI.out.nil, hDi, L3, Lib.hid (by have := R3.out; simpa [Job.cells] using this), Lib.hid (J3.out.snoc fair_nil), Lib.hid (fun x hx h0 ad ha => by rcases List.mem_append.1 hx with h1 | h1; (exact hAb.out x h1 h0 ad ha); (simp at h1; subst h1; cases ha)), Lib.hid (fun j hj => (belc b3 (by omega)).trans (S1.out j hj)), Lib.hid (fun j => (belf b3 (by omega)).trans (F1.out j)), D3, B1.trans (b3.mono (by omega)), by have := b3.size; omega⟩
        case measure => simp [intOf]; omega
      · by_cases hj0 : 0 < jn
        · by_cases hp1 : p = 1
          · subst hp1
            obtain ⟨m, rfl⟩ : ∃ m, jn = m + 1 := ⟨jn - 1, by omega⟩
            obtain ⟨g, off, hJA⟩ : ∃ g off, JA = some ⟨g, off, none⟩ := by
              cases JA with
              | none => have := R1.out.nul rfl; have := R1.out.le; omega
              | some ad => obtain ⟨g, off, rfl, _⟩ := R1.out.at_ _ rfl; exact ⟨g, off, rfl⟩
            subst hJA
            obtain ⟨g', off', eg, hg0, hg1, hcell, hroom⟩ := R1.out.at_ _ rfl
            injection eg with eg eo
            subst eg eo
            have hmc : m + 1 ≤ jc := R1.out.le
            have hmcI : (m : Int) ≤ (jc : Int) := by omega
            have hm0 : ¬ m + 1 = 0 := by omega
            obtain ⟨j, hj⟩ : ∃ j, js[m]? = some j := ⟨_, List.getElem?_eq_getElem (by rw [hjl.out]; omega)⟩
            have hmem := List.mem_of_getElem? hj
            have cj : x1.cell? ⟨g, off + m, none⟩ = some (.slice j.A j.n j.c) := hcell m _ (job_at hj)
            have HJ := Lib.hid hj
            have FS := Lib.hid (J1.out j hmem).1.sl
            have jn40 : j.n ≤ 40 := by have := (J1.out j hmem).2.2.2.1; omega
            clear hcell hroom hj
            go_wp2_with fail
            refine (keep_any A n c l j.A j.n j.c j.s x1 L1.out.sl FS.out (by omega) (by omega) (hI.out.ok.le (by omega))).mono ?_
            rw [hI.out.move HJ.out (by omega)]
            rintro e wt ⟨A3, c3, rfl, s3, b3, lo3⟩
            simp only [mvAll_len, hI.out.len] at s3 lo3 ⊢
            have NB : Below w.heap.size w wt := B1.trans (b3.mono B1.size)
            have NL : Hid (Lx wt d (blkOf (some ⟨g, off, none⟩)) 8 Acc.cells A3 n (mvAll 0 j.s l)) := Lib.hid (Lx.fresh s3 D1.out.lt (fun g hg => (R1.out.block hg).2) lo3)
            have hdr : js.drop (m + 1) = [] := List.drop_eq_nil_of_le (by rw [hjl.out]; exact Nat.le_refl _)
            have hni := hI.out.drop HJ.out (f := 0) (by omega)
            rw [hdr, List.append_nil] at hni
            have NI := Lib.hid hni
            have ND := Lib.hid (hDi.out.move (f := 0) (by omega) j.s)
            have hsub : ∀ x ∈ js.take m, x ∈ js := fun x hx => List.mem_of_mem_take hx
            have NJ := Lib.hid ((J1.out.below b3).sub hsub)
            have NA := Lib.hid (above_sub hAb.out hsub)
            have hnr := (R1.out.below b3).take (k := m) (by omega)
            rw [flat_take Job.size] at hnr
            have NR := Lib.hid hnr
            have NJL : Hid ((js.take m).length = m) := Lib.hid (by rw [List.length_take]; have := hjl.out; omega)
            have NS := Lib.hid (S1.out.below b3 (by omega))
            have NF := Lib.hid (show ∀ j, wt.frozen? ⟨SB, j, none⟩ = false from fun j => (belf b3 (by omega)).trans (F1.out j))
            have NDC := Lib.hid (D1.out.below b3)
            have NZ : base ≤ wt.heap.size := by have := b3.size; omega
            have NSB := Lib.hid (show ∀ x ∈ js.take m, -45035996273704960 ≤ sumS x.s ∧ sumS x.s ≤ 45035996273704960 from fun x hx => by
              obtain ⟨G1, G2, G3, G4, _⟩ := NJ.out x hx
              exact sumS_bnd (q := q) (okS_of G2 G3 (by omega)) (by rw [G1.sl.len]; omega))
            have NSZ : SB < wt.heap.size := by omega
            clear s3 lo3 b3 cj L1 J1 R1 S1 F1 D1 B1 FS hni hnr hdr hsub
            go_wp2_with fail
            go_loopw [13, 108] (fun s i wr => ∃ t : Nat, t ≤ m ∧ i = .int .i64 t ∧ s = .int .i64 (flJ ((js.take m).take t)) ∧ Below wt.heap.size wt wr) (fun _ i _ => m - (intOf i).toNat)
            case atStart => exact ⟨0, Nat.zero_le _, rfl, rfl, Below.refl _ _⟩
            case round =>
              obtain ⟨t, ht, rfl, rfl, hbt⟩ := hrel
              rename World => wa
              by_cases hlt : t < m
              · obtain ⟨jj, hjj⟩ : ∃ jj, (js.take m)[t]? = some jj := ⟨_, List.getElem?_eq_getElem (by have := NJL.out; omega)⟩
                obtain ⟨rb, ro, hra, hrb, hrat⟩ := (NR.out.sl Job.size NJL.out).at_ (by omega)
                have hmj := List.mem_of_getElem? hjj
                have cjj : wa.cell? ⟨rb, ro + t, none⟩ = some (.slice jj.A jj.n jj.c) := by have := (belc hbt hrb).trans (hrat t jj hjj 0 _ rfl); rwa [Nat.mul_one, Nat.add_zero] at this
                obtain ⟨G1, G2, G3, G4, G5⟩ := NJ.out jj hmj
                have hjn : jj.n ≤ 40 := by omega
                have OKJ := Lib.hid (okS_of G2 G3 (by omega))
                obtain ⟨s0, s1⟩ := NSB.out jj hmj
                obtain ⟨f0, f1⟩ := flJ_bnd NSB.out t
                have f0' : -1801439850948198400 ≤ flJ ((js.take m).take t) := by omega
                have f1' : flJ ((js.take m).take t) ≤ 1801439850948198400 := by omega
                have HSN := Lib.hid (flJ_snoc hjj)
                have SJ := Lib.hid (G1.sl.up hbt)
                injection hra with hra
                injection hra with e1 e2 _
                subst e1 e2
                clear G1 G2 G3 G4 G5 f0 f1 hjj hrat
                go_wp2_with fail
                refine (sum_any jj.A jj.n jj.c jj.s wa SJ.out (by omega) OKJ.out).mono ?_
                rintro e wb ⟨rfl, hbb⟩
                go_wp2
                go_roundw
                case rel =>
                  first
                    | exact ⟨t + 1, by omega, by go_num, by rw [HSN.out], hbt.trans (hbb.mono hbt.size)⟩
                    | ((repeat apply Exists.intro); refine ⟨?_, rfl⟩; exact ⟨t + 1, by omega, by go_num, by rw [HSN.out], hbt.trans (hbb.mono hbt.size)⟩)
                case measure => simp [intOf]; omega
              · obtain rfl : m = t := by omega
                have htk : (js.take m).take m = js.take m := List.take_of_length_le (by have := NJL.out; omega)
                rw [htk]
                go_wp2_with fail
                go_loopw [119] (fun i wr => ∃ t : Nat, t ≤ n ∧ i = .int .i64 t ∧ Below wt.heap.size wt wr) (fun i _ => n - (intOf i).toNat)
                case atStart => exact ⟨0, Nat.zero_le _, rfl, hbt⟩
                case round =>
                  obtain ⟨t, ht, rfl, hbu⟩ := hrel
                  rename World => wc
                  have hzc := hbu.size
                  by_cases hlt : t < n
                  · obtain ⟨a, ha⟩ : ∃ a, (mvAll 0 j.s l)[t]? = some a := ⟨_, List.getElem?_eq_getElem (by have := NI.out.len; omega)⟩
                    obtain ⟨ab, ao, rfl, hab, haat⟩ := NL.out.sl.at_ (by omega)
                    have hA (f : Nat) (hf : f < 8) : wc.cell? ⟨ab, ao + (t * 8 + f), none⟩ = some (.int .i64 (a f)) := (belc hbu hab).trans (haat t a ha f _ (Acc.at_ a f hf))
                    have d0 := hA 0 (by omega)
                    have d1 := hA 1 (by omega)
                    have d2 := hA 2 (by omega)
                    have d3 := hA 3 (by omega)
                    have d4 := hA 4 (by omega)
                    have d5 := hA 5 (by omega)
                    have d6 := hA 6 (by omega)
                    have d7 := hA 7 (by omega)
                    simp only [← Nat.add_assoc, Nat.add_zero] at d0 d1 d2 d3 d4 d5 d6 d7
                    have HOA := Lib.hid ((NI.out.ok.le (show _ ≤ (1000000 : Int) by omega)) t a ha)
                    have HDT := Lib.hid ((tot_lost a).trans (ND.out t a ha))
                    have cs : wc.cell? ⟨SB, t, none⟩ = some (.int .i64 (a 0 + lostA a + a 7)) := by rw [HDT.out]; exact (belc hbu NSZ).trans (NS.out t (by omega))
                    have a7 := HOA.out.le7
                    have hal := HOA.out.le
                    obtain ⟨g0, g0'⟩ := hal 0 (by omega)
                    obtain ⟨g7, g7'⟩ := hal 7 (by omega)
                    have ht8 : (t : Int) < 8 := by omega
                    have ht0 : (0 : Int) ≤ (t : Int) := by omega
                    obtain ⟨lo0, lo1⟩ := lost_bnd HOA.out
                    clear hA hal haat ha
                    have hwA : IntKind.i64.wrap (a 0 + lostA a) = a 0 + lostA a := wrap_small (by omega) (by omega)
                    have hwB : IntKind.i64.wrap (a 0 + lostA a + a 7) = a 0 + lostA a + a 7 := wrap_small (by omega) (by omega)
                    have hwC : wrap64 (a 0 + lostA a) = a 0 + lostA a := by unfold wrap64; omega
                    have hwD : wrap64 (a 0 + lostA a + a 7) = a 0 + lostA a + a 7 := by unfold wrap64; omega
                    have hnl : ¬ a 7 < 0 := by omega
                    have hnlb : decide (a 7 < 0) = false := by simp; omega
                    obtain ⟨wd, hwd⟩ : ∃ wd, wd = wc.alloc (.cells #[.int .i64 (a 0), .int .i64 (a 1), .int .i64 (a 2), .int .i64 (a 3), .int .i64 (a 4), .int .i64 (a 5), .int .i64 (a 6), .int .i64 (a 7)] 41) := ⟨_, rfl⟩
                    have hbd : Below wc.heap.size wc wd := by rw [hwd]; exact (Below.refl _ _).alloc (Nat.le_refl _) _
                    have hlw : wc.heap.size < wd.heap.size := by rw [hwd]; simp
                    have hAt : At wd wc.heap.size a := by rw [hwd]; exact At.mk' (fun j u hu => by rw [cell_new _ _ _ _ _ rfl, ← Array.getElem?_toList]; exact hu)
                    have e0 := hAt 0 (by omega)
                    have e1 := hAt 1 (by omega)
                    have e2 := hAt 2 (by omega)
                    have e3 := hAt 3 (by omega)
                    have e4 := hAt 4 (by omega)
                    have e5 := hAt 5 (by omega)
                    have e6 := hAt 6 (by omega)
                    have e7 := hAt 7 (by omega)
                    have csd : wd.cell? ⟨SB, t, none⟩ = some (.int .i64 (a 0 + lostA a + a 7)) := (belc hbd (by omega)).trans cs
                    have hsbd : SB < wd.heap.size := by omega
                    have HAT := Lib.hid hAt
                    clear hAt
                    go_wp2_with fail
                    rw [← hwd]
                    have HWD := Lib.hid hwd
                    clear hwd
                    go_region_held3 (fun w' => w'.cell? ⟨wc.heap.size, 0, none⟩ = some (.int .i64 (a 0)) ∧ w'.cell? ⟨wc.heap.size, 1, none⟩ = some (.int .i64 (a 1)) ∧ w'.cell? ⟨wc.heap.size, 2, none⟩ = some (.int .i64 (a 2)) ∧ w'.cell? ⟨wc.heap.size, 3, none⟩ = some (.int .i64 (a 3)) ∧ w'.cell? ⟨wc.heap.size, 4, none⟩ = some (.int .i64 (a 4)) ∧ w'.cell? ⟨wc.heap.size, 5, none⟩ = some (.int .i64 (a 5)) ∧ w'.cell? ⟨wc.heap.size, 6, none⟩ = some (.int .i64 (a 6)) ∧ w'.cell? ⟨wc.heap.size, 7, none⟩ = some (.int .i64 (a 7)) ∧ w'.cell? ⟨SB, t, none⟩ = some (.int .i64 (a 0 + lostA a + a 7)))
                      (first | exact ⟨e0, e1, e2, e3, e4, e5, e6, e7, csd⟩ | exact ⟨p0, p1, p2, p3, p4, p5, p6, p7, csp⟩)
                      (first
                        | (go_at_call 28; refine (lost_any a 1000000 (by omega) HOA.out wd.drew).mono ?_; rintro e we ⟨rfl, hbe⟩; have hbe : Below wd.heap.size wd we := (Below.drew (Below.refl _ _)).trans hbe; have p0 := (belc hbe hlw).trans e0; have p1 := (belc hbe hlw).trans e1; have p2 := (belc hbe hlw).trans e2; have p3 := (belc hbe hlw).trans e3; have p4 := (belc hbe hlw).trans e4; have p5 := (belc hbe hlw).trans e5; have p6 := (belc hbe hlw).trans e6; have p7 := (belc hbe hlw).trans e7; have csp := (belc hbe hsbd).trans csd))
                    all_goals
                      go_wp2
                      go_roundw
                      case rel =>
                        first
                          | exact ⟨t + 1, by omega, by go_num, hbu.trans (hbd.trans (hbe.mono hbd.size) |>.mono hbu.size)⟩
                          | ((repeat apply Exists.intro); refine ⟨?_, rfl⟩; exact ⟨t + 1, by omega, by go_num, hbu.trans (hbd.trans (hbe.mono hbd.size) |>.mono hbu.size)⟩)
                      case measure => simp [intOf]; omega
                  · obtain rfl : n = t := by omega
                    have hfl := flight_all NI.out
                    go_wp2_with fail
                    refine (totals_any (A3) n (c3) (mvAll 0 j.s l) wc (NL.out.sl.up hbu) (by omega) (NI.out.ok.le (by omega))).mono ?_
                    rintro e wf ⟨rfl, hbf⟩
                    have hv : (totF (mvAll 0 j.s l)).value = .agg #[.int .i64 (totF (mvAll 0 j.s l) 0), .int .i64 (totF (mvAll 0 j.s l) 1), .int .i64 (totF (mvAll 0 j.s l) 2), .int .i64 (totF (mvAll 0 j.s l) 3), .int .i64 (totF (mvAll 0 j.s l) 4), .int .i64 (totF (mvAll 0 j.s l) 5), .int .i64 (totF (mvAll 0 j.s l) 6), .int .i64 (flJ (js.take m))] := by rw [← hfl]; rfl
                    rw [hv]
                    have hif : ∀ w, (Instr.field 41 (.agg #[.int .i64 (totF (mvAll 0 j.s l) 0), .int .i64 (totF (mvAll 0 j.s l) 1), .int .i64 (totF (mvAll 0 j.s l) 2), .int .i64 (totF (mvAll 0 j.s l) 3), .int .i64 (totF (mvAll 0 j.s l) 4), .int .i64 (totF (mvAll 0 j.s l) 5), .int .i64 (totF (mvAll 0 j.s l) 6), .int .i64 (flJ (js.take m))]) 2).run Try.prog w = .ok (.int .i64 (flJ (js.take m))) w := fun _ => by kernel_rfl
                    have HFL := Lib.hid hfl
                    clear hfl hv
                    have hbz : Below wt.heap.size wt wf := hbu.trans (hbf.mono hbu.size)
                    go_wp2
                    go_roundw
                    case rel =>
                      first
                        | exact ⟨k + 1, q, _, _, _, _, _, _, _, st, by omega, by omega, by go_num, rfl, rfl, by omega, NJL, NI, ND, Lib.hid (NL.out.below hbz), Lib.hid (NR.out.below hbz), Lib.hid (NJ.out.below hbz), NA, Lib.hid (NS.out.below hbz NSZ), Lib.hid (fun j => (belf hbz NSZ).trans (NF.out j)), Lib.hid (NDC.out.below hbz), NB.trans (hbz.mono NB.size), by have := hbz.size; omega⟩
                        | ((repeat apply Exists.intro); refine ⟨?_, rfl⟩; exact ⟨k + 1, q, _, _, _, _, _, _, _, st, by omega, by omega, by go_num, rfl, rfl, by omega, NJL, NI, ND, Lib.hid (NL.out.below hbz), Lib.hid (NR.out.below hbz), Lib.hid (NJ.out.below hbz), NA, Lib.hid (NS.out.below hbz NSZ), Lib.hid (fun j => (belf hbz NSZ).trans (NF.out j)), Lib.hid (NDC.out.below hbz), NB.trans (hbz.mono NB.size), by have := hbz.size; omega⟩)
                    case measure => simp [intOf]; omega
          · by_cases hp2 : p = 2
            · subst hp2
              obtain ⟨m, rfl⟩ : ∃ m, jn = m + 1 := ⟨jn - 1, by omega⟩
              obtain ⟨g, off, hJA⟩ : ∃ g off, JA = some ⟨g, off, none⟩ := by
                cases JA with
                | none => have := R1.out.nul rfl; have := R1.out.le; omega
                | some ad => obtain ⟨g, off, rfl, _⟩ := R1.out.at_ _ rfl; exact ⟨g, off, rfl⟩
              subst hJA
              obtain ⟨g', off', eg, hg0, hg1, hcell, hroom⟩ := R1.out.at_ _ rfl
              injection eg with eg eo
              subst eg eo
              have hmc : m + 1 ≤ jc := R1.out.le
              have hmcI : (m : Int) ≤ (jc : Int) := by omega
              have hm0 : ¬ m + 1 = 0 := by omega
              obtain ⟨j, hj⟩ : ∃ j, js[0]? = some j := ⟨_, List.getElem?_eq_getElem (by rw [hjl.out]; omega)⟩
              have hmem := List.mem_of_getElem? hj
              have cj : x1.cell? ⟨g, off, none⟩ = some (.slice j.A j.n j.c) := hcell 0 _ (job_at hj)
              have HJ := Lib.hid hj
              have jn40 : j.n ≤ 40 := by have := (J1.out j hmem).2.2.2.1; omega
              clear hcell hroom hj
              have D2 : Dice x1.drew d := D1.out.below (Below.drew (Below.refl _ _))
              have L2d := Lib.hid (L1.out.below (Below.drew (Below.refl _ _)) : Lx x1.drew d _ 8 Acc.cells A n l)
              have J2d := Lib.hid (J1.out.below (Below.drew (Below.refl _ _)) : Jobs x1.drew d _ n q js)
              have R2d := Lib.hid (R1.out.below (Below.drew (Below.refl _ _)) : Row x1.drew base 1 (some ⟨g, off, none⟩) (m + 1) jc (js.flatMap Job.cells))
              have S2d := Lib.hid (show At x1.drew SB st from S1.out)
              have F2d := Lib.hid (show ∀ j, x1.drew.frozen? ⟨SB, j, none⟩ = false from F1.out)
              have hgd : g ≠ d := by omega
              have hm1I : (1 : Int) ≤ ((m + 1 : Nat) : Int) := by omega
              have hm0I : (0 : Int) < ((m + 1 : Nat) : Int) := by omega
              clear L1 J1 R1 S1 F1 D1
              go_wp2_with fail
              go_region_held3 (fun w' => w'.cell? ⟨g, off, none⟩ = some (.slice j.A j.n j.c)) (first | exact cj | exact cj3 | exact cj4)
                (first
                  | (go_at_call 10; refine (pick_any d 6 x1.drew D2 (by omega) (by omega)).mono ?_; rintro e x3 ⟨u, hu, rfl, t3, y3⟩; have cj3 : x3.cell? ⟨g, off, none⟩ = some (.slice j.A j.n j.c) := (t3.cell (by show g < x1.heap.size; exact hg1) hgd).trans cj; have hlt0 : SB < x1.drew.heap.size := (by show SB < x1.heap.size; omega); have L2 := Lib.hid (L2d.out.thrown t3); have J2 := Lib.hid (J2d.out.thrown t3); have R2 := Lib.hid (R2d.out.kept t3.grown (fun g hg e => by have := HJX.out g hg; injection e with e; omega)); have S2 := Lib.hid (show At x3 SB st from fun j hj => (t3.cell hlt0 hne0).trans (S2d.out j hj)); have F2 := Lib.hid (show ∀ j, x3.frozen? ⟨SB, j, none⟩ = false from fun j => (t3.frozen hlt0 hne0).trans (F2d.out j)); have B2 : Below w.heap.size w x3 := (B1.drew).trans (t3.below hdw (by show w.heap.size ≤ x1.heap.size; omega)); have D2' := Lib.hid t3.dice; have Z2 : base ≤ x3.heap.size := (by have := t3.size; have h2 : x1.drew.heap.size = x1.heap.size := rfl; omega); clear t3)
                  | (go_at_call 15; refine (lose_any A n c l u j.A j.n j.c j.s x3 L2.out.sl (J2.out j hmem).1.sl (by omega) (by omega) (hI.out.ok.le (by omega))).mono ?_; rw [show loseE (u : Int) l j.s = moveE (1 + u) l j.s from by rw [loseE, if_pos (by omega)]; rfl, hI.out.move HJ.out (by omega)]; rintro e wt ⟨A3, c3, rfl, s3, b3, lo3⟩; simp only [mvAll_len, hI.out.len] at s3 lo3 ⊢; have cj4 : wt.cell? ⟨g, off, none⟩ = some (.slice j.A j.n j.c) := (belc b3 (R2.out.block rfl).2).trans cj3; have NL : Hid (Lx wt d (blkOf (some ⟨g, off, none⟩)) 8 Acc.cells A3 n (mvAll (1 + u) j.s l)) := Lib.hid (Lx.fresh s3 D2'.out.lt (fun g hg => (R2.out.block hg).2) lo3); have J3 := Lib.hid (J2.out.below b3); have R3 := Lib.hid (R2.out.below b3); have S3 := Lib.hid (S2.out.below b3 (by omega)); have F3 := Lib.hid (show ∀ j, wt.frozen? ⟨SB, j, none⟩ = false from fun j => (belf b3 (by omega)).trans (F2.out j)); have D3 := Lib.hid (D2'.out.below b3); have B3 : Below w.heap.size w wt := B2.trans (b3.mono B2.size); have Z3 : base ≤ wt.heap.size := (by have := b3.size; omega); clear s3 lo3 b3))
              have hni := hI.out.drop HJ.out (f := 1 + u) (by omega)
              rw [List.take_zero, List.nil_append] at hni
              have hsub : ∀ x ∈ js.drop (0 + 1), x ∈ js := fun x hx => List.mem_of_mem_drop hx
              rw [Nat.zero_add] at hni hsub
              have hnr0 : 1 < jc → Row wt base 1 (some ⟨g, off + 1, none⟩) m (jc - 1) ((js.drop 1).flatMap Job.cells) := fun h => by
                have hnr := R3.out.drop (k := 1) (by omega)
                rwa [flat_drop Job.size, Nat.mul_one, Nat.add_sub_cancel] at hnr
              have hnl0 : (js.drop 1).length = m := by rw [List.length_drop, hjl.out]; omega
              obtain ⟨js2, hjs2⟩ : ∃ js2, js2 = js.drop 1 := ⟨_, rfl⟩
              rw [← hjs2] at hni hsub hnr0 hnl0
              have HNR := Lib.hid hnr0
              have HNL := Lib.hid hnl0
              clear hjs2 hnr0 hnl0
              by_cases hcap : jc = 1
              · obtain rfl : m = 0 := by omega
                subst hcap
                have hdr : js2 = [] := List.eq_nil_of_length_eq_zero HNL.out
                have NR : Hid (Row wt base 1 (some ⟨g, off, none⟩) 0 0 (js2.flatMap Job.cells)) := Lib.hid (by rw [hdr]; exact R3.out.dropAll)
                have NJL := HNL
                clear hdr
                have NZ : base ≤ wt.heap.size := Z3
                have NB := B3
                have NS := S3
                have NF := F3
                have NDC := D3
                have NJ := Lib.hid (J3.out.sub hsub)
                have NA := Lib.hid (above_sub hAb.out hsub)
                have NI := Lib.hid hni
                have ND := Lib.hid (hDi.out.move (f := 1 + u) (by omega) j.s)
                have NSB := Lib.hid (show ∀ x ∈ js2, -45035996273704960 ≤ sumS x.s ∧ sumS x.s ≤ 45035996273704960 from fun x hx => by
                  obtain ⟨G1, G2, G3, G4, _⟩ := NJ.out x hx
                  exact sumS_bnd (q := q) (okS_of G2 G3 (by omega)) (by rw [G1.sl.len]; omega))
                have NSZ : SB < wt.heap.size := by omega
                clear J3 R3 S3 F3 D3 hni hsub
                go_wp2_with fail
                go_loopw [13, 108] (fun s i wr => ∃ t : Nat, t ≤ 0 ∧ i = .int .i64 t ∧ s = .int .i64 (flJ ((js2).take t)) ∧ Below wt.heap.size wt wr) (fun _ i _ => 0 - (intOf i).toNat)
                case atStart => exact ⟨0, Nat.zero_le _, rfl, rfl, Below.refl _ _⟩
                case round =>
                  obtain ⟨t, ht, rfl, rfl, hbt⟩ := hrel
                  rename World => wa
                  by_cases hlt : t < 0
                  · exact absurd hlt (by omega)
                  · obtain rfl : 0 = t := by omega
                    have htk : (js2).take 0 = js2 := List.take_of_length_le (by have := NJL.out; omega)
                    rw [htk]
                    go_wp2_with fail
                    go_loopw [119] (fun i wr => ∃ t : Nat, t ≤ n ∧ i = .int .i64 t ∧ Below wt.heap.size wt wr) (fun i _ => n - (intOf i).toNat)
                    case atStart => exact ⟨0, Nat.zero_le _, rfl, hbt⟩
                    case round =>
                      obtain ⟨t, ht, rfl, hbu⟩ := hrel
                      rename World => wc
                      have hzc := hbu.size
                      by_cases hlt : t < n
                      · obtain ⟨a, ha⟩ : ∃ a, (mvAll (1 + u) j.s l)[t]? = some a := ⟨_, List.getElem?_eq_getElem (by have := NI.out.len; omega)⟩
                        obtain ⟨ab, ao, rfl, hab, haat⟩ := NL.out.sl.at_ (by omega)
                        have hA (f : Nat) (hf : f < 8) : wc.cell? ⟨ab, ao + (t * 8 + f), none⟩ = some (.int .i64 (a f)) := (belc hbu hab).trans (haat t a ha f _ (Acc.at_ a f hf))
                        have d0 := hA 0 (by omega)
                        have d1 := hA 1 (by omega)
                        have d2 := hA 2 (by omega)
                        have d3 := hA 3 (by omega)
                        have d4 := hA 4 (by omega)
                        have d5 := hA 5 (by omega)
                        have d6 := hA 6 (by omega)
                        have d7 := hA 7 (by omega)
                        simp only [← Nat.add_assoc, Nat.add_zero] at d0 d1 d2 d3 d4 d5 d6 d7
                        have HOA := Lib.hid ((NI.out.ok.le (show _ ≤ (1000000 : Int) by omega)) t a ha)
                        have HDT := Lib.hid ((tot_lost a).trans (ND.out t a ha))
                        have cs : wc.cell? ⟨SB, t, none⟩ = some (.int .i64 (a 0 + lostA a + a 7)) := by rw [HDT.out]; exact (belc hbu NSZ).trans (NS.out t (by omega))
                        have a7 := HOA.out.le7
                        have hal := HOA.out.le
                        obtain ⟨g0, g0'⟩ := hal 0 (by omega)
                        obtain ⟨g7, g7'⟩ := hal 7 (by omega)
                        have ht8 : (t : Int) < 8 := by omega
                        have ht0 : (0 : Int) ≤ (t : Int) := by omega
                        obtain ⟨lo0, lo1⟩ := lost_bnd HOA.out
                        clear hA hal haat ha
                        have hwA : IntKind.i64.wrap (a 0 + lostA a) = a 0 + lostA a := wrap_small (by omega) (by omega)
                        have hwB : IntKind.i64.wrap (a 0 + lostA a + a 7) = a 0 + lostA a + a 7 := wrap_small (by omega) (by omega)
                        have hwC : wrap64 (a 0 + lostA a) = a 0 + lostA a := by unfold wrap64; omega
                        have hwD : wrap64 (a 0 + lostA a + a 7) = a 0 + lostA a + a 7 := by unfold wrap64; omega
                        have hnl : ¬ a 7 < 0 := by omega
                        have hnlb : decide (a 7 < 0) = false := by simp; omega
                        obtain ⟨wd, hwd⟩ : ∃ wd, wd = wc.alloc (.cells #[.int .i64 (a 0), .int .i64 (a 1), .int .i64 (a 2), .int .i64 (a 3), .int .i64 (a 4), .int .i64 (a 5), .int .i64 (a 6), .int .i64 (a 7)] 41) := ⟨_, rfl⟩
                        have hbd : Below wc.heap.size wc wd := by rw [hwd]; exact (Below.refl _ _).alloc (Nat.le_refl _) _
                        have hlw : wc.heap.size < wd.heap.size := by rw [hwd]; simp
                        have hAt : At wd wc.heap.size a := by rw [hwd]; exact At.mk' (fun j u hu => by rw [cell_new _ _ _ _ _ rfl, ← Array.getElem?_toList]; exact hu)
                        have e0 := hAt 0 (by omega)
                        have e1 := hAt 1 (by omega)
                        have e2 := hAt 2 (by omega)
                        have e3 := hAt 3 (by omega)
                        have e4 := hAt 4 (by omega)
                        have e5 := hAt 5 (by omega)
                        have e6 := hAt 6 (by omega)
                        have e7 := hAt 7 (by omega)
                        have csd : wd.cell? ⟨SB, t, none⟩ = some (.int .i64 (a 0 + lostA a + a 7)) := (belc hbd (by omega)).trans cs
                        have hsbd : SB < wd.heap.size := by omega
                        have HAT := Lib.hid hAt
                        clear hAt
                        go_wp2_with fail
                        rw [← hwd]
                        have HWD := Lib.hid hwd
                        clear hwd
                        go_region_held3 (fun w' => w'.cell? ⟨wc.heap.size, 0, none⟩ = some (.int .i64 (a 0)) ∧ w'.cell? ⟨wc.heap.size, 1, none⟩ = some (.int .i64 (a 1)) ∧ w'.cell? ⟨wc.heap.size, 2, none⟩ = some (.int .i64 (a 2)) ∧ w'.cell? ⟨wc.heap.size, 3, none⟩ = some (.int .i64 (a 3)) ∧ w'.cell? ⟨wc.heap.size, 4, none⟩ = some (.int .i64 (a 4)) ∧ w'.cell? ⟨wc.heap.size, 5, none⟩ = some (.int .i64 (a 5)) ∧ w'.cell? ⟨wc.heap.size, 6, none⟩ = some (.int .i64 (a 6)) ∧ w'.cell? ⟨wc.heap.size, 7, none⟩ = some (.int .i64 (a 7)) ∧ w'.cell? ⟨SB, t, none⟩ = some (.int .i64 (a 0 + lostA a + a 7)))
                          (first | exact ⟨e0, e1, e2, e3, e4, e5, e6, e7, csd⟩ | exact ⟨p0, p1, p2, p3, p4, p5, p6, p7, csp⟩)
                          (first
                            | (go_at_call 28; refine (lost_any a 1000000 (by omega) HOA.out wd.drew).mono ?_; rintro e we ⟨rfl, hbe⟩; have hbe : Below wd.heap.size wd we := (Below.drew (Below.refl _ _)).trans hbe; have p0 := (belc hbe hlw).trans e0; have p1 := (belc hbe hlw).trans e1; have p2 := (belc hbe hlw).trans e2; have p3 := (belc hbe hlw).trans e3; have p4 := (belc hbe hlw).trans e4; have p5 := (belc hbe hlw).trans e5; have p6 := (belc hbe hlw).trans e6; have p7 := (belc hbe hlw).trans e7; have csp := (belc hbe hsbd).trans csd))
                        all_goals
                          go_wp2
                          go_roundw
                          case rel =>
                            first
                              | exact ⟨t + 1, by omega, by go_num, hbu.trans (hbd.trans (hbe.mono hbd.size) |>.mono hbu.size)⟩
                              | ((repeat apply Exists.intro); refine ⟨?_, rfl⟩; exact ⟨t + 1, by omega, by go_num, hbu.trans (hbd.trans (hbe.mono hbd.size) |>.mono hbu.size)⟩)
                          case measure => simp [intOf]; omega
                      · obtain rfl : n = t := by omega
                        have hfl := flight_all NI.out
                        go_wp2_with fail
                        refine (totals_any (A3) n (c3) (mvAll (1 + u) j.s l) wc (NL.out.sl.up hbu) (by omega) (NI.out.ok.le (by omega))).mono ?_
                        rintro e wf ⟨rfl, hbf⟩
                        have hv : (totF (mvAll (1 + u) j.s l)).value = .agg #[.int .i64 (totF (mvAll (1 + u) j.s l) 0), .int .i64 (totF (mvAll (1 + u) j.s l) 1), .int .i64 (totF (mvAll (1 + u) j.s l) 2), .int .i64 (totF (mvAll (1 + u) j.s l) 3), .int .i64 (totF (mvAll (1 + u) j.s l) 4), .int .i64 (totF (mvAll (1 + u) j.s l) 5), .int .i64 (totF (mvAll (1 + u) j.s l) 6), .int .i64 (flJ (js2))] := by rw [← hfl]; rfl
                        rw [hv]
                        have hif : ∀ w, (Instr.field 41 (.agg #[.int .i64 (totF (mvAll (1 + u) j.s l) 0), .int .i64 (totF (mvAll (1 + u) j.s l) 1), .int .i64 (totF (mvAll (1 + u) j.s l) 2), .int .i64 (totF (mvAll (1 + u) j.s l) 3), .int .i64 (totF (mvAll (1 + u) j.s l) 4), .int .i64 (totF (mvAll (1 + u) j.s l) 5), .int .i64 (totF (mvAll (1 + u) j.s l) 6), .int .i64 (flJ (js2))]) 2).run Try.prog w = .ok (.int .i64 (flJ (js2))) w := fun _ => by kernel_rfl
                        have HFL := Lib.hid hfl
                        clear hfl hv
                        have hbz : Below wt.heap.size wt wf := hbu.trans (hbf.mono hbu.size)
                        go_wp2
                        go_roundw
                        case rel =>
                          first
                            | exact ⟨k + 1, q, _, _, _, _, _, _, _, st, by omega, by omega, by go_num, rfl, rfl, by omega, NJL, NI, ND, Lib.hid (NL.out.below hbz), Lib.hid (NR.out.below hbz), Lib.hid (NJ.out.below hbz), NA, Lib.hid (NS.out.below hbz NSZ), Lib.hid (fun j => (belf hbz NSZ).trans (NF.out j)), Lib.hid (NDC.out.below hbz), NB.trans (hbz.mono NB.size), by have := hbz.size; omega⟩
                            | ((repeat apply Exists.intro); refine ⟨?_, rfl⟩; exact ⟨k + 1, q, _, _, _, _, _, _, _, st, by omega, by omega, by go_num, rfl, rfl, by omega, NJL, NI, ND, Lib.hid (NL.out.below hbz), Lib.hid (NR.out.below hbz), Lib.hid (NJ.out.below hbz), NA, Lib.hid (NS.out.below hbz NSZ), Lib.hid (fun j => (belf hbz NSZ).trans (NF.out j)), Lib.hid (NDC.out.below hbz), NB.trans (hbz.mono NB.size), by have := hbz.size; omega⟩)
                        case measure => simp [intOf]; omega
              · have hcap2 : ¬ jc ≤ 1 := by omega
                have NR := Lib.hid (HNR.out (by omega))
                have NJL := HNL
                have NZ : base ≤ wt.heap.size := Z3
                have NB := B3
                have NS := S3
                have NF := F3
                have NDC := D3
                have NJ := Lib.hid (J3.out.sub hsub)
                have NA := Lib.hid (above_sub hAb.out hsub)
                have NI := Lib.hid hni
                have ND := Lib.hid (hDi.out.move (f := 1 + u) (by omega) j.s)
                have NSB := Lib.hid (show ∀ x ∈ js2, -45035996273704960 ≤ sumS x.s ∧ sumS x.s ≤ 45035996273704960 from fun x hx => by
                  obtain ⟨G1, G2, G3, G4, _⟩ := NJ.out x hx
                  exact sumS_bnd (q := q) (okS_of G2 G3 (by omega)) (by rw [G1.sl.len]; omega))
                have NSZ : SB < wt.heap.size := by omega
                clear J3 R3 S3 F3 D3 hni hsub
                go_wp2_with fail
                go_loopw [13, 108] (fun s i wr => ∃ t : Nat, t ≤ m ∧ i = .int .i64 t ∧ s = .int .i64 (flJ ((js2).take t)) ∧ Below wt.heap.size wt wr) (fun _ i _ => m - (intOf i).toNat)
                case atStart => exact ⟨0, Nat.zero_le _, rfl, rfl, Below.refl _ _⟩
                case round =>
                  obtain ⟨t, ht, rfl, rfl, hbt⟩ := hrel
                  rename World => wa
                  by_cases hlt : t < m
                  · obtain ⟨jj, hjj⟩ : ∃ jj, (js2)[t]? = some jj := ⟨_, List.getElem?_eq_getElem (by have := NJL.out; omega)⟩
                    obtain ⟨rb, ro, hra, hrb, hrat⟩ := (NR.out.sl Job.size NJL.out).at_ (by omega)
                    have hmj := List.mem_of_getElem? hjj
                    have cjj : wa.cell? ⟨rb, ro + t, none⟩ = some (.slice jj.A jj.n jj.c) := by have := (belc hbt hrb).trans (hrat t jj hjj 0 _ rfl); rwa [Nat.mul_one, Nat.add_zero] at this
                    obtain ⟨G1, G2, G3, G4, G5⟩ := NJ.out jj hmj
                    have hjn : jj.n ≤ 40 := by omega
                    have OKJ := Lib.hid (okS_of G2 G3 (by omega))
                    obtain ⟨s0, s1⟩ := NSB.out jj hmj
                    obtain ⟨f0, f1⟩ := flJ_bnd NSB.out t
                    have f0' : -1801439850948198400 ≤ flJ ((js2).take t) := by omega
                    have f1' : flJ ((js2).take t) ≤ 1801439850948198400 := by omega
                    have HSN := Lib.hid (flJ_snoc hjj)
                    have SJ := Lib.hid (G1.sl.up hbt)
                    injection hra with hra
                    injection hra with e1 e2 _
                    subst e1 e2
                    clear G1 G2 G3 G4 G5 f0 f1 hjj hrat
                    go_wp2_with fail
                    refine (sum_any jj.A jj.n jj.c jj.s wa SJ.out (by omega) OKJ.out).mono ?_
                    rintro e wb ⟨rfl, hbb⟩
                    go_wp2
                    go_roundw
                    case rel =>
                      first
                        | exact ⟨t + 1, by omega, by go_num, by rw [HSN.out], hbt.trans (hbb.mono hbt.size)⟩
                        | ((repeat apply Exists.intro); refine ⟨?_, rfl⟩; exact ⟨t + 1, by omega, by go_num, by rw [HSN.out], hbt.trans (hbb.mono hbt.size)⟩)
                    case measure => simp [intOf]; omega
                  · obtain rfl : m = t := by omega
                    have htk : (js2).take m = js2 := List.take_of_length_le (by have := NJL.out; omega)
                    rw [htk]
                    go_wp2_with fail
                    go_loopw [119] (fun i wr => ∃ t : Nat, t ≤ n ∧ i = .int .i64 t ∧ Below wt.heap.size wt wr) (fun i _ => n - (intOf i).toNat)
                    case atStart => exact ⟨0, Nat.zero_le _, rfl, hbt⟩
                    case round =>
                      obtain ⟨t, ht, rfl, hbu⟩ := hrel
                      rename World => wc
                      have hzc := hbu.size
                      by_cases hlt : t < n
                      · obtain ⟨a, ha⟩ : ∃ a, (mvAll (1 + u) j.s l)[t]? = some a := ⟨_, List.getElem?_eq_getElem (by have := NI.out.len; omega)⟩
                        obtain ⟨ab, ao, rfl, hab, haat⟩ := NL.out.sl.at_ (by omega)
                        have hA (f : Nat) (hf : f < 8) : wc.cell? ⟨ab, ao + (t * 8 + f), none⟩ = some (.int .i64 (a f)) := (belc hbu hab).trans (haat t a ha f _ (Acc.at_ a f hf))
                        have d0 := hA 0 (by omega)
                        have d1 := hA 1 (by omega)
                        have d2 := hA 2 (by omega)
                        have d3 := hA 3 (by omega)
                        have d4 := hA 4 (by omega)
                        have d5 := hA 5 (by omega)
                        have d6 := hA 6 (by omega)
                        have d7 := hA 7 (by omega)
                        simp only [← Nat.add_assoc, Nat.add_zero] at d0 d1 d2 d3 d4 d5 d6 d7
                        have HOA := Lib.hid ((NI.out.ok.le (show _ ≤ (1000000 : Int) by omega)) t a ha)
                        have HDT := Lib.hid ((tot_lost a).trans (ND.out t a ha))
                        have cs : wc.cell? ⟨SB, t, none⟩ = some (.int .i64 (a 0 + lostA a + a 7)) := by rw [HDT.out]; exact (belc hbu NSZ).trans (NS.out t (by omega))
                        have a7 := HOA.out.le7
                        have hal := HOA.out.le
                        obtain ⟨g0, g0'⟩ := hal 0 (by omega)
                        obtain ⟨g7, g7'⟩ := hal 7 (by omega)
                        have ht8 : (t : Int) < 8 := by omega
                        have ht0 : (0 : Int) ≤ (t : Int) := by omega
                        obtain ⟨lo0, lo1⟩ := lost_bnd HOA.out
                        clear hA hal haat ha
                        have hwA : IntKind.i64.wrap (a 0 + lostA a) = a 0 + lostA a := wrap_small (by omega) (by omega)
                        have hwB : IntKind.i64.wrap (a 0 + lostA a + a 7) = a 0 + lostA a + a 7 := wrap_small (by omega) (by omega)
                        have hwC : wrap64 (a 0 + lostA a) = a 0 + lostA a := by unfold wrap64; omega
                        have hwD : wrap64 (a 0 + lostA a + a 7) = a 0 + lostA a + a 7 := by unfold wrap64; omega
                        have hnl : ¬ a 7 < 0 := by omega
                        have hnlb : decide (a 7 < 0) = false := by simp; omega
                        obtain ⟨wd, hwd⟩ : ∃ wd, wd = wc.alloc (.cells #[.int .i64 (a 0), .int .i64 (a 1), .int .i64 (a 2), .int .i64 (a 3), .int .i64 (a 4), .int .i64 (a 5), .int .i64 (a 6), .int .i64 (a 7)] 41) := ⟨_, rfl⟩
                        have hbd : Below wc.heap.size wc wd := by rw [hwd]; exact (Below.refl _ _).alloc (Nat.le_refl _) _
                        have hlw : wc.heap.size < wd.heap.size := by rw [hwd]; simp
                        have hAt : At wd wc.heap.size a := by rw [hwd]; exact At.mk' (fun j u hu => by rw [cell_new _ _ _ _ _ rfl, ← Array.getElem?_toList]; exact hu)
                        have e0 := hAt 0 (by omega)
                        have e1 := hAt 1 (by omega)
                        have e2 := hAt 2 (by omega)
                        have e3 := hAt 3 (by omega)
                        have e4 := hAt 4 (by omega)
                        have e5 := hAt 5 (by omega)
                        have e6 := hAt 6 (by omega)
                        have e7 := hAt 7 (by omega)
                        have csd : wd.cell? ⟨SB, t, none⟩ = some (.int .i64 (a 0 + lostA a + a 7)) := (belc hbd (by omega)).trans cs
                        have hsbd : SB < wd.heap.size := by omega
                        have HAT := Lib.hid hAt
                        clear hAt
                        go_wp2_with fail
                        rw [← hwd]
                        have HWD := Lib.hid hwd
                        clear hwd
                        go_region_held3 (fun w' => w'.cell? ⟨wc.heap.size, 0, none⟩ = some (.int .i64 (a 0)) ∧ w'.cell? ⟨wc.heap.size, 1, none⟩ = some (.int .i64 (a 1)) ∧ w'.cell? ⟨wc.heap.size, 2, none⟩ = some (.int .i64 (a 2)) ∧ w'.cell? ⟨wc.heap.size, 3, none⟩ = some (.int .i64 (a 3)) ∧ w'.cell? ⟨wc.heap.size, 4, none⟩ = some (.int .i64 (a 4)) ∧ w'.cell? ⟨wc.heap.size, 5, none⟩ = some (.int .i64 (a 5)) ∧ w'.cell? ⟨wc.heap.size, 6, none⟩ = some (.int .i64 (a 6)) ∧ w'.cell? ⟨wc.heap.size, 7, none⟩ = some (.int .i64 (a 7)) ∧ w'.cell? ⟨SB, t, none⟩ = some (.int .i64 (a 0 + lostA a + a 7)))
                          (first | exact ⟨e0, e1, e2, e3, e4, e5, e6, e7, csd⟩ | exact ⟨p0, p1, p2, p3, p4, p5, p6, p7, csp⟩)
                          (first
                            | (go_at_call 28; refine (lost_any a 1000000 (by omega) HOA.out wd.drew).mono ?_; rintro e we ⟨rfl, hbe⟩; have hbe : Below wd.heap.size wd we := (Below.drew (Below.refl _ _)).trans hbe; have p0 := (belc hbe hlw).trans e0; have p1 := (belc hbe hlw).trans e1; have p2 := (belc hbe hlw).trans e2; have p3 := (belc hbe hlw).trans e3; have p4 := (belc hbe hlw).trans e4; have p5 := (belc hbe hlw).trans e5; have p6 := (belc hbe hlw).trans e6; have p7 := (belc hbe hlw).trans e7; have csp := (belc hbe hsbd).trans csd))
                        all_goals
                          go_wp2
                          go_roundw
                          case rel =>
                            first
                              | exact ⟨t + 1, by omega, by go_num, hbu.trans (hbd.trans (hbe.mono hbd.size) |>.mono hbu.size)⟩
                              | ((repeat apply Exists.intro); refine ⟨?_, rfl⟩; exact ⟨t + 1, by omega, by go_num, hbu.trans (hbd.trans (hbe.mono hbd.size) |>.mono hbu.size)⟩)
                          case measure => simp [intOf]; omega
                      · obtain rfl : n = t := by omega
                        have hfl := flight_all NI.out
                        go_wp2_with fail
                        refine (totals_any (A3) n (c3) (mvAll (1 + u) j.s l) wc (NL.out.sl.up hbu) (by omega) (NI.out.ok.le (by omega))).mono ?_
                        rintro e wf ⟨rfl, hbf⟩
                        have hv : (totF (mvAll (1 + u) j.s l)).value = .agg #[.int .i64 (totF (mvAll (1 + u) j.s l) 0), .int .i64 (totF (mvAll (1 + u) j.s l) 1), .int .i64 (totF (mvAll (1 + u) j.s l) 2), .int .i64 (totF (mvAll (1 + u) j.s l) 3), .int .i64 (totF (mvAll (1 + u) j.s l) 4), .int .i64 (totF (mvAll (1 + u) j.s l) 5), .int .i64 (totF (mvAll (1 + u) j.s l) 6), .int .i64 (flJ (js2))] := by rw [← hfl]; rfl
                        rw [hv]
                        have hif : ∀ w, (Instr.field 41 (.agg #[.int .i64 (totF (mvAll (1 + u) j.s l) 0), .int .i64 (totF (mvAll (1 + u) j.s l) 1), .int .i64 (totF (mvAll (1 + u) j.s l) 2), .int .i64 (totF (mvAll (1 + u) j.s l) 3), .int .i64 (totF (mvAll (1 + u) j.s l) 4), .int .i64 (totF (mvAll (1 + u) j.s l) 5), .int .i64 (totF (mvAll (1 + u) j.s l) 6), .int .i64 (flJ (js2))]) 2).run Try.prog w = .ok (.int .i64 (flJ (js2))) w := fun _ => by kernel_rfl
                        have HFL := Lib.hid hfl
                        clear hfl hv
                        have hbz : Below wt.heap.size wt wf := hbu.trans (hbf.mono hbu.size)
                        go_wp2
                        go_roundw
                        case rel =>
                          first
                            | exact ⟨k + 1, q, _, _, _, _, _, _, _, st, by omega, by omega, by go_num, rfl, rfl, by omega, NJL, NI, ND, Lib.hid (NL.out.below hbz), Lib.hid (NR.out.below hbz), Lib.hid (NJ.out.below hbz), NA, Lib.hid (NS.out.below hbz NSZ), Lib.hid (fun j => (belf hbz NSZ).trans (NF.out j)), Lib.hid (NDC.out.below hbz), NB.trans (hbz.mono NB.size), by have := hbz.size; omega⟩
                            | ((repeat apply Exists.intro); refine ⟨?_, rfl⟩; exact ⟨k + 1, q, _, _, _, _, _, _, _, st, by omega, by omega, by go_num, rfl, rfl, by omega, NJL, NI, ND, Lib.hid (NL.out.below hbz), Lib.hid (NR.out.below hbz), Lib.hid (NJ.out.below hbz), NA, Lib.hid (NS.out.below hbz NSZ), Lib.hid (fun j => (belf hbz NSZ).trans (NF.out j)), Lib.hid (NDC.out.below hbz), NB.trans (hbz.mono NB.size), by have := hbz.size; omega⟩)
                        case measure => simp [intOf]; omega
            · obtain ⟨m, rfl⟩ : ∃ m, jn = m + 1 := ⟨jn - 1, by omega⟩
              obtain ⟨g, off, hJA⟩ : ∃ g off, JA = some ⟨g, off, none⟩ := by
                cases JA with
                | none => have := R1.out.nul rfl; have := R1.out.le; omega
                | some ad => obtain ⟨g, off, rfl, _⟩ := R1.out.at_ _ rfl; exact ⟨g, off, rfl⟩
              subst hJA
              obtain ⟨g', off', eg, hg0, hg1, hcell, hroom⟩ := R1.out.at_ _ rfl
              injection eg with eg eo
              subst eg eo
              have hmc : m + 1 ≤ jc := R1.out.le
              have hmcI : (m : Int) ≤ (jc : Int) := by omega
              have hm0 : ¬ m + 1 = 0 := by omega
              obtain ⟨j, hj⟩ : ∃ j, js[m]? = some j := ⟨_, List.getElem?_eq_getElem (by rw [hjl.out]; omega)⟩
              have hmem := List.mem_of_getElem? hj
              have HCE := Lib.hid (hcell m _ (job_at hj))
              have HFZ := Lib.hid (hroom m (by omega)).2
              have HJ := Lib.hid hj
              have jn40 : j.n ≤ 40 := by have := (J1.out j hmem).2.2.2.1; omega
              have hgd : g ≠ d := by omega
              clear hcell hroom hj
              go_wp2_with fail
              refine (pick_any d n x1 D1.out hn1 (by omega)).mono ?_
              rintro e x2 ⟨u, hu, rfl, t2, y2⟩
              have cj2 := (t2.cell hg1 hgd).trans HCE.out
              have cf2 := (t2.frozen hg1 hgd).trans HFZ.out
              have hlt1 : SB < x1.heap.size := by omega
              have L2 := Lib.hid (L1.out.thrown t2)
              have J2 := Lib.hid (J1.out.thrown t2)
              have R2 := Lib.hid (R1.out.kept t2.grown (fun g hg e => by have := HJX.out g hg; injection e with e; omega))
              have S2 := Lib.hid (show At x2 SB st from fun j hj => (t2.cell hlt1 hne0).trans (S1.out j hj))
              have F2 := Lib.hid (show ∀ j, x2.frozen? ⟨SB, j, none⟩ = false from fun j => (t2.frozen hlt1 hne0).trans (F1.out j))
              have B2 : Below w.heap.size w x2 := B1.trans (t2.below hdw B1.size)
              have D2 := Lib.hid t2.dice
              have Z2 : base ≤ x2.heap.size := by have := t2.size; omega
              clear t2 L1 J1 R1 S1 F1 D1 B1 HCE HFZ
              go_wp2_with fail
              refine (step_any A n c l u x2 L2.out.sl (by omega) (hI.out.ok.le (by omega))).mono ?_
              have hst : stepE l u = (stepA l u, 0) := by rw [stepE, hI.out.len, inB_true (by omega) (by omega)]; rfl
              have hln : (stepA l u).length = n := (step_len l u).trans hI.out.len
              rw [hst]
              rintro e x3 ⟨A3, c3, rfl, s3, b3, lo3⟩
              simp only [hln] at s3 lo3 ⊢
              have hg2 : g < x2.heap.size := (R2.out.block rfl).2
              have cj3 := (belc b3 (o := off + m) hg2).trans cj2
              have cf3 := (belf b3 (o := off + m) hg2).trans cf2
              have L3 : Hid (Lx x3 d (blkOf (some ⟨g, off, none⟩)) 8 Acc.cells A3 n (stepA l u)) := Lib.hid (Lx.fresh s3 D2.out.lt (fun g hg => (R2.out.block hg).2) lo3)
              have hA3 : Hid (0 < n → ∀ ad, A3 = some ad → ad.block ≠ SB) := Lib.hid (fun h ad ha => by have := lo3 h ad ha; omega)
              have J3 := Lib.hid (J2.out.below b3)
              have R3 := Lib.hid (R2.out.below b3)
              have S3 := Lib.hid (S2.out.below b3 (by omega))
              have F3 := Lib.hid (show ∀ j, x3.frozen? ⟨SB, j, none⟩ = false from fun j => (belf b3 (by omega)).trans (F2.out j))
              have D3 := Lib.hid (D2.out.below b3)
              have B3 : Below w.heap.size w x3 := B2.trans (b3.mono B2.size)
              have Z3 : base ≤ x3.heap.size := by have := b3.size; omega
              clear s3 lo3 b3 L2 J2 R2 S2 F2 D2 B2 cj2 cf2 hst hln
              have cu := S3.out u (by omega)
              have fu := F3.out u
              obtain ⟨a, ha⟩ : ∃ a, l[u]? = some a := ⟨_, List.getElem?_eq_getElem (by have := hI.out.len; omega)⟩
              have hsu : 0 ≤ st u ∧ st u ≤ 40 := by
                have h1 := hDi.out u a ha
                have h2 := hI.out.ok u a ha
                have h3 := h2.2
                have h4 := lost_bnd h2
                have h5 := tot_lost a
                have h6 := h2.1 0 (by omega)
                have h7 := h2.1 7 (by omega)
                omega
              obtain ⟨hsu0, hsu1⟩ := hsu
              have hu8 : (u : Int) < 8 := by omega
              obtain ⟨xs, hxs⟩ : ∃ xs, xs = x3.setCell ⟨SB, u, none⟩ (.int .i64 (st u + 1)) := ⟨_, rfl⟩
              have hgSB : g ≠ SB := by omega
              have cjs : xs.cell? ⟨g, off + m, none⟩ = some (.slice j.A j.n j.c) := by rw [hxs, set_other _ _ _ _ (by intro e; injection e with e1 e2; omega)]; exact cj3
              have cfs : xs.frozen? ⟨g, off + m, none⟩ = false := by rw [hxs, World.frozen?_setCell]; exact cf3
              have Ls := Lib.hid (show Lx xs d (blkOf (some ⟨g, off, none⟩)) 8 Acc.cells A3 n (stepA l u) from by rw [hxs]; exact L3.out.set hA3.out _)
              have Js := Lib.hid (show Jobs xs d (blkOf (some ⟨g, off, none⟩)) n q js from by rw [hxs]; exact J3.out.set' hAb.out rfl _)
              have Rs := Lib.hid (show Row xs base 1 (some ⟨g, off, none⟩) (m + 1) jc (js.flatMap Job.cells) from by rw [hxs]; exact R3.out.setOther (fun k hk => by injection hk with hk; have hk' : g = k := hk; show k ≠ SB; omega) _)
              have Ss := Lib.hid (show At xs SB (put st u (st u + 1)) from by rw [hxs]; exact S3.out.set (by omega) _)
              have Fs := Lib.hid (show ∀ j, xs.frozen? ⟨SB, j, none⟩ = false from fun j => by rw [hxs, World.frozen?_setCell]; exact F3.out j)
              have Ds := Lib.hid (show Dice xs d from by rw [hxs]; exact D3.out.set hdSB _)
              have Bs : Below w.heap.size w xs := by rw [hxs]; exact B3.setCell (by show w.heap.size ≤ SB; omega) _
              have Zs : base ≤ xs.heap.size := by rw [hxs]; simpa using Z3
              have hg3 : g < xs.heap.size := (Rs.out.block rfl).2
              clear ha L3 J3 R3 S3 F3 D3 B3 cf3
              have FF := Lib.hid (Js.out j hmem)
              have hmi : (m : Int) < ((m + 1 : Nat) : Int) := by omega
              go_wp2_with fail
              rw [← hxs]
              have HXS := Lib.hid hxs
              clear hxs cj3
              refine (add_any j.A j.n j.c j.s u xs FF.out.1.sl (by omega) (okS_of FF.out.2.1 FF.out.2.2.1 (by omega))).mono ?_
              rintro e x4 ⟨A6, n6, c6, rfl, hn6, s6, b6, lo6, hc6, hA6⟩
              have cj6 := (belc b6 (o := off + m) hg3).trans cjs
              have cf6 := (belf b6 (o := off + m) hg3).trans cfs
              have HN6 := Lib.hid hn6
              have L6 := Lib.hid (Ls.out.below b6)
              have J6 := Lib.hid (Js.out.below b6)
              have R6 := Lib.hid (Rs.out.below b6)
              have S6 := Lib.hid (Ss.out.below b6 (by omega))
              have F6 := Lib.hid (show ∀ j, x4.frozen? ⟨SB, j, none⟩ = false from fun j => (belf b6 (by omega)).trans (Fs.out j))
              have D6 := Lib.hid (Ds.out.below b6)
              have B6 : Below w.heap.size w x4 := Bs.trans (b6.mono Bs.size)
              have Z6 : base ≤ x4.heap.size := by have := b6.size; omega
              have N6 := Lib.hid (Lx.fresh s6 Ds.out.lt (fun g hg => (Rs.out.block hg).2) lo6 : Lx x4 d (blkOf (some ⟨g, off, none⟩)) 2 Shr.cells A6 n6 (addS j.s u))
              have NA6 : Hid (0 < n6 → ∀ ad, A6 = some ad → SB < ad.block) := Lib.hid (fun h ad ha => by have := lo6 h ad ha; omega)
              have HC6 := Lib.hid hc6
              have HA6 := Lib.hid hA6
              clear hn6 s6 b6 lo6 hc6 hA6 Ls Js Rs Ss Fs Ds Bs cjs cfs
              obtain ⟨wt, hwt⟩ : ∃ wt, wt = x4.setCell ⟨g, off + m, none⟩ (.slice A6 n6 c6) := ⟨_, rfl⟩
              obtain ⟨j', hj'⟩ : ∃ j' : Job, j' = ⟨A6, n6, c6, addS j.s u⟩ := ⟨_, rfl⟩
              have hg7 : x4.grownBy wt (some g) := by rw [hwt]; exact grown_set x4 ⟨g, off + m, none⟩ _
              have NL := Lib.hid (L6.out.grown hg7 (fun g h => .inl h))
              have hr7 := R6.out.set (j := m) (by omega) (.slice A6 n6 c6)
              have hs7 := job_set js m j'
              rw [hj'] at hs7
              have hs7' : (js.flatMap Job.cells).set m (.slice A6 n6 c6) = (js.set m ⟨A6, n6, c6, addS j.s u⟩).flatMap Job.cells := hs7
              rw [hs7', ← hj', ← hwt] at hr7
              have NR := Lib.hid hr7
              have hfair : Fair wt d (blkOf (some ⟨g, off, none⟩)) n (q + 1) j' := by
                rw [hj']
                refine ⟨N6.out.grown hg7 (fun g h => .inl h), addS_fine FF.out.2.1 hu, ?_, ?_, HC6.out, HA6.out⟩
                · have := addS_small (k := (u : Int)) FF.out.2.2.1 (by omega); rwa [Int.natCast_succ]
                · have h1 := HN6.out; have h2 := addS_len j.s u; have h3 : j.s.length ≤ q := by rw [FF.out.1.sl.len]; exact FF.out.2.2.2.1
                  show n6 ≤ q + 1; omega
              have NJ := Lib.hid (Jobs.set (i := m) ((J6.out.grown hg7 (fun g h => .inl h)).mono (q' := q + 1) (by omega)) hfair)
              have NA := Lib.hid (show Above SB (js.set m j') from fun x hx h0 ad had => by
                rcases List.mem_or_eq_of_mem_set hx with h1 | h1
                · exact hAb.out x h1 h0 ad had
                · subst h1; rw [hj'] at h0 had; exact NA6.out h0 ad had)
              have NI := Lib.hid (hI.out.step HJ.out hu (j' := j') (by rw [hj']))
              have ND := Lib.hid (hDi.out.step u)
              have NJL : Hid ((js.set m j').length = m + 1) := Lib.hid (by rw [List.length_set]; exact hjl.out)
              have NS := Lib.hid (show At wt SB (put st u (st u + 1)) from fun j hj => ((gcell hg7).1 SB j (by omega) (fun e => by injection e with e; omega)).trans (S6.out j hj))
              have NF := Lib.hid (show ∀ j, wt.frozen? ⟨SB, j, none⟩ = false from fun j => ((gcell hg7).2 SB j (by omega) (fun e => by injection e with e; omega)).trans (F6.out j))
              have NDC := Lib.hid (D6.out.grown hg7 (fun k hk => by injection hk with hk; omega))
              have NB : Below w.heap.size w wt := B6.grown hg7 (by omega) (fun k hk => by injection hk with hk; omega)
              have NZ : base ≤ wt.heap.size := by have := hg7.size; omega
              have NSB := Lib.hid (show ∀ x ∈ js.set m j', -45035996273704960 ≤ sumS x.s ∧ sumS x.s ≤ 45035996273704960 from fun x hx => by
                obtain ⟨G1, G2, G3, G4, _⟩ := NJ.out x hx
                exact sumS_bnd (q := q + 1) (okS_of G2 G3 (by omega)) (by rw [G1.sl.len]; omega))
              have NSZ : SB < wt.heap.size := by omega
              clear L6 J6 R6 S6 F6 D6 B6 N6 NA6 hr7 hs7 hs7' hfair
              go_wp2_with fail
              rw [← hwt]
              have HWT := Lib.hid hwt
              have HJE := Lib.hid hj'
              clear hwt hj'
              go_loopw [13, 108] (fun s i wr => ∃ t : Nat, t ≤ m + 1 ∧ i = .int .i64 t ∧ s = .int .i64 (flJ ((js.set m j').take t)) ∧ Below wt.heap.size wt wr) (fun _ i _ => m + 1 - (intOf i).toNat)
              case atStart => exact ⟨0, Nat.zero_le _, rfl, rfl, Below.refl _ _⟩
              case round =>
                obtain ⟨t, ht, rfl, rfl, hbt⟩ := hrel
                rename World => wa
                by_cases hlt : t < m + 1
                · obtain ⟨jj, hjj⟩ : ∃ jj, (js.set m j')[t]? = some jj := ⟨_, List.getElem?_eq_getElem (by have := NJL.out; omega)⟩
                  obtain ⟨rb, ro, hra, hrb, hrat⟩ := (NR.out.sl Job.size NJL.out).at_ (by omega)
                  have hmj := List.mem_of_getElem? hjj
                  have cjj : wa.cell? ⟨rb, ro + t, none⟩ = some (.slice jj.A jj.n jj.c) := by have := (belc hbt hrb).trans (hrat t jj hjj 0 _ rfl); rwa [Nat.mul_one, Nat.add_zero] at this
                  obtain ⟨G1, G2, G3, G4, G5⟩ := NJ.out jj hmj
                  have hjn : jj.n ≤ 40 := by omega
                  have OKJ := Lib.hid (okS_of G2 G3 (by omega))
                  obtain ⟨s0, s1⟩ := NSB.out jj hmj
                  obtain ⟨f0, f1⟩ := flJ_bnd NSB.out t
                  have f0' : -1801439850948198400 ≤ flJ ((js.set m j').take t) := by omega
                  have f1' : flJ ((js.set m j').take t) ≤ 1801439850948198400 := by omega
                  have HSN := Lib.hid (flJ_snoc hjj)
                  have SJ := Lib.hid (G1.sl.up hbt)
                  injection hra with hra
                  injection hra with e1 e2 _
                  subst e1 e2
                  clear G1 G2 G3 G4 G5 f0 f1 hjj hrat
                  go_wp2_with fail
                  refine (sum_any jj.A jj.n jj.c jj.s wa SJ.out (by omega) OKJ.out).mono ?_
                  rintro e wb ⟨rfl, hbb⟩
                  go_wp2
                  go_roundw
                  case rel =>
                    first
                      | exact ⟨t + 1, by omega, by go_num, by rw [HSN.out], hbt.trans (hbb.mono hbt.size)⟩
                      | ((repeat apply Exists.intro); refine ⟨?_, rfl⟩; exact ⟨t + 1, by omega, by go_num, by rw [HSN.out], hbt.trans (hbb.mono hbt.size)⟩)
                  case measure => simp [intOf]; omega
                · obtain rfl : m + 1 = t := by omega
                  have htk : (js.set m j').take (m + 1) = js.set m j' := List.take_of_length_le (by have := NJL.out; omega)
                  rw [htk]
                  go_wp2_with fail
                  go_loopw [119] (fun i wr => ∃ t : Nat, t ≤ n ∧ i = .int .i64 t ∧ Below wt.heap.size wt wr) (fun i _ => n - (intOf i).toNat)
                  case atStart => exact ⟨0, Nat.zero_le _, rfl, hbt⟩
                  case round =>
                    obtain ⟨t, ht, rfl, hbu⟩ := hrel
                    rename World => wc
                    have hzc := hbu.size
                    by_cases hlt : t < n
                    · obtain ⟨a, ha⟩ : ∃ a, (stepA l u)[t]? = some a := ⟨_, List.getElem?_eq_getElem (by have := NI.out.len; omega)⟩
                      obtain ⟨ab, ao, rfl, hab, haat⟩ := NL.out.sl.at_ (by omega)
                      have hA (f : Nat) (hf : f < 8) : wc.cell? ⟨ab, ao + (t * 8 + f), none⟩ = some (.int .i64 (a f)) := (belc hbu hab).trans (haat t a ha f _ (Acc.at_ a f hf))
                      have d0 := hA 0 (by omega)
                      have d1 := hA 1 (by omega)
                      have d2 := hA 2 (by omega)
                      have d3 := hA 3 (by omega)
                      have d4 := hA 4 (by omega)
                      have d5 := hA 5 (by omega)
                      have d6 := hA 6 (by omega)
                      have d7 := hA 7 (by omega)
                      simp only [← Nat.add_assoc, Nat.add_zero] at d0 d1 d2 d3 d4 d5 d6 d7
                      have HOA := Lib.hid ((NI.out.ok.le (show _ ≤ (1000000 : Int) by omega)) t a ha)
                      have HDT := Lib.hid ((tot_lost a).trans (ND.out t a ha))
                      have cs : wc.cell? ⟨SB, t, none⟩ = some (.int .i64 (a 0 + lostA a + a 7)) := by rw [HDT.out]; exact (belc hbu NSZ).trans (NS.out t (by omega))
                      have a7 := HOA.out.le7
                      have hal := HOA.out.le
                      obtain ⟨g0, g0'⟩ := hal 0 (by omega)
                      obtain ⟨g7, g7'⟩ := hal 7 (by omega)
                      have ht8 : (t : Int) < 8 := by omega
                      have ht0 : (0 : Int) ≤ (t : Int) := by omega
                      obtain ⟨lo0, lo1⟩ := lost_bnd HOA.out
                      clear hA hal haat ha
                      have hwA : IntKind.i64.wrap (a 0 + lostA a) = a 0 + lostA a := wrap_small (by omega) (by omega)
                      have hwB : IntKind.i64.wrap (a 0 + lostA a + a 7) = a 0 + lostA a + a 7 := wrap_small (by omega) (by omega)
                      have hwC : wrap64 (a 0 + lostA a) = a 0 + lostA a := by unfold wrap64; omega
                      have hwD : wrap64 (a 0 + lostA a + a 7) = a 0 + lostA a + a 7 := by unfold wrap64; omega
                      have hnl : ¬ a 7 < 0 := by omega
                      have hnlb : decide (a 7 < 0) = false := by simp; omega
                      obtain ⟨wd, hwd⟩ : ∃ wd, wd = wc.alloc (.cells #[.int .i64 (a 0), .int .i64 (a 1), .int .i64 (a 2), .int .i64 (a 3), .int .i64 (a 4), .int .i64 (a 5), .int .i64 (a 6), .int .i64 (a 7)] 41) := ⟨_, rfl⟩
                      have hbd : Below wc.heap.size wc wd := by rw [hwd]; exact (Below.refl _ _).alloc (Nat.le_refl _) _
                      have hlw : wc.heap.size < wd.heap.size := by rw [hwd]; simp
                      have hAt : At wd wc.heap.size a := by rw [hwd]; exact At.mk' (fun j u hu => by rw [cell_new _ _ _ _ _ rfl, ← Array.getElem?_toList]; exact hu)
                      have e0 := hAt 0 (by omega)
                      have e1 := hAt 1 (by omega)
                      have e2 := hAt 2 (by omega)
                      have e3 := hAt 3 (by omega)
                      have e4 := hAt 4 (by omega)
                      have e5 := hAt 5 (by omega)
                      have e6 := hAt 6 (by omega)
                      have e7 := hAt 7 (by omega)
                      have csd : wd.cell? ⟨SB, t, none⟩ = some (.int .i64 (a 0 + lostA a + a 7)) := (belc hbd (by omega)).trans cs
                      have hsbd : SB < wd.heap.size := by omega
                      have HAT := Lib.hid hAt
                      clear hAt
                      go_wp2_with fail
                      rw [← hwd]
                      have HWD := Lib.hid hwd
                      clear hwd
                      go_region_held3 (fun w' => w'.cell? ⟨wc.heap.size, 0, none⟩ = some (.int .i64 (a 0)) ∧ w'.cell? ⟨wc.heap.size, 1, none⟩ = some (.int .i64 (a 1)) ∧ w'.cell? ⟨wc.heap.size, 2, none⟩ = some (.int .i64 (a 2)) ∧ w'.cell? ⟨wc.heap.size, 3, none⟩ = some (.int .i64 (a 3)) ∧ w'.cell? ⟨wc.heap.size, 4, none⟩ = some (.int .i64 (a 4)) ∧ w'.cell? ⟨wc.heap.size, 5, none⟩ = some (.int .i64 (a 5)) ∧ w'.cell? ⟨wc.heap.size, 6, none⟩ = some (.int .i64 (a 6)) ∧ w'.cell? ⟨wc.heap.size, 7, none⟩ = some (.int .i64 (a 7)) ∧ w'.cell? ⟨SB, t, none⟩ = some (.int .i64 (a 0 + lostA a + a 7)))
                        (first | exact ⟨e0, e1, e2, e3, e4, e5, e6, e7, csd⟩ | exact ⟨p0, p1, p2, p3, p4, p5, p6, p7, csp⟩)
                        (first
                          | (go_at_call 28; refine (lost_any a 1000000 (by omega) HOA.out wd.drew).mono ?_; rintro e we ⟨rfl, hbe⟩; have hbe : Below wd.heap.size wd we := (Below.drew (Below.refl _ _)).trans hbe; have p0 := (belc hbe hlw).trans e0; have p1 := (belc hbe hlw).trans e1; have p2 := (belc hbe hlw).trans e2; have p3 := (belc hbe hlw).trans e3; have p4 := (belc hbe hlw).trans e4; have p5 := (belc hbe hlw).trans e5; have p6 := (belc hbe hlw).trans e6; have p7 := (belc hbe hlw).trans e7; have csp := (belc hbe hsbd).trans csd))
                      all_goals
                        go_wp2
                        go_roundw
                        case rel =>
                          first
                            | exact ⟨t + 1, by omega, by go_num, hbu.trans (hbd.trans (hbe.mono hbd.size) |>.mono hbu.size)⟩
                            | ((repeat apply Exists.intro); refine ⟨?_, rfl⟩; exact ⟨t + 1, by omega, by go_num, hbu.trans (hbd.trans (hbe.mono hbd.size) |>.mono hbu.size)⟩)
                        case measure => simp [intOf]; omega
                    · obtain rfl : n = t := by omega
                      have hfl := flight_all NI.out
                      go_wp2_with fail
                      refine (totals_any (A3) n (c3) (stepA l u) wc (NL.out.sl.up hbu) (by omega) (NI.out.ok.le (by omega))).mono ?_
                      rintro e wf ⟨rfl, hbf⟩
                      have hv : (totF (stepA l u)).value = .agg #[.int .i64 (totF (stepA l u) 0), .int .i64 (totF (stepA l u) 1), .int .i64 (totF (stepA l u) 2), .int .i64 (totF (stepA l u) 3), .int .i64 (totF (stepA l u) 4), .int .i64 (totF (stepA l u) 5), .int .i64 (totF (stepA l u) 6), .int .i64 (flJ (js.set m j'))] := by rw [← hfl]; rfl
                      rw [hv]
                      have hif : ∀ w, (Instr.field 41 (.agg #[.int .i64 (totF (stepA l u) 0), .int .i64 (totF (stepA l u) 1), .int .i64 (totF (stepA l u) 2), .int .i64 (totF (stepA l u) 3), .int .i64 (totF (stepA l u) 4), .int .i64 (totF (stepA l u) 5), .int .i64 (totF (stepA l u) 6), .int .i64 (flJ (js.set m j'))]) 2).run Try.prog w = .ok (.int .i64 (flJ (js.set m j'))) w := fun _ => by kernel_rfl
                      have HFL := Lib.hid hfl
                      clear hfl hv
                      have hbz : Below wt.heap.size wt wf := hbu.trans (hbf.mono hbu.size)
                      go_wp2
                      go_roundw
                      case rel =>
                        first
                          | exact ⟨k + 1, q + 1, _, _, _, _, _, _, _, put st u (st u + 1), by omega, by omega, by go_num, rfl, rfl, by omega, NJL, NI, ND, Lib.hid (NL.out.below hbz), Lib.hid (NR.out.below hbz), Lib.hid (NJ.out.below hbz), NA, Lib.hid (NS.out.below hbz NSZ), Lib.hid (fun j => (belf hbz NSZ).trans (NF.out j)), Lib.hid (NDC.out.below hbz), NB.trans (hbz.mono NB.size), by have := hbz.size; omega⟩
                          | ((repeat apply Exists.intro); refine ⟨?_, rfl⟩; exact ⟨k + 1, q + 1, _, _, _, _, _, _, _, put st u (st u + 1), by omega, by omega, by go_num, rfl, rfl, by omega, NJL, NI, ND, Lib.hid (NL.out.below hbz), Lib.hid (NR.out.below hbz), Lib.hid (NJ.out.below hbz), NA, Lib.hid (NS.out.below hbz NSZ), Lib.hid (fun j => (belf hbz NSZ).trans (NF.out j)), Lib.hid (NDC.out.below hbz), NB.trans (hbz.mono NB.size), by have := hbz.size; omega⟩)
                      case measure => simp [intOf]; omega
        · obtain rfl : jn = 0 := by omega
          by_cases hp1 : p = 1
          · subst hp1
            go_wp2
            go_roundw
            case rel => exact ⟨k + 1, q, A, c, JA, 0, jc, l, js, st, by omega, by omega, by go_num, rfl, rfl, by omega, hjl, hI, hDi, L1, R1, J1, hAb, S1, F1, D1, B1, by omega⟩
            case measure => simp [intOf]; omega
          · by_cases hp2 : p = 2
            · subst hp2
              go_wp2
              go_roundw
              case rel => exact ⟨k + 1, q, A, c, JA, 0, jc, l, js, st, by omega, by omega, by go_num, rfl, rfl, by omega, hjl, hI, hDi, L1, R1, J1, hAb, S1, F1, D1, B1, by omega⟩
              case measure => simp [intOf]; omega
            · go_wp2
              go_roundw
              case rel => exact ⟨k + 1, q, A, c, JA, 0, jc, l, js, st, by omega, by omega, by go_num, rfl, rfl, by omega, hjl, hI, hDi, L1, R1, J1, hAb, S1, F1, D1, B1, by omega⟩
              case measure => simp [intOf]; omega
    · obtain rfl : k = 40 := by omega
      go_wp2
      go_ret
      exact ⟨rfl, hB⟩
end Go.Proofs.Ytignbncphdemlaa
