/- LedgerMoves, walked. -/
import Derived.Test.YtignbncphdemlaaY
import Derived.Deep.DeepCutAuto
namespace Go.Proofs.Ytignbncphdemlaa
open Go.RowKit

theorem slB_thrown {α : Type} {w w' : World} {d B sz n : Nat} {cells : α → List Value} {A : Option Addr} {l : List α} (h : Sl w B sz cells A n l) (hB : B ≤ w.heap.size) (ht : Thrown w d w') (hA : 0 < n → ∀ ad, A = some ad → ad.block ≠ d) : Sl w' B sz cells A n l := by
  refine ⟨h.len, fun hn => ?_⟩
  obtain ⟨ab, ao, e, hlt, hc⟩ := h.at_ hn
  exact ⟨ab, ao, e, hlt, fun i x hx j u hu => (ht.cell (b := ab) (Nat.lt_of_lt_of_le hlt hB) (hA hn _ e)).trans (hc i x hx j u hu)⟩
set_option maxRecDepth 100000 in
set_option maxHeartbeats 8000000 in
theorem moves_any (A0 : Option Addr) (n0 c0 : Nat) (seeds : List Int) (A1 : Option Addr) (n1 c1 : Nat) (raw : List Shr) (worker cause k : Int) (w : World) (hs : Sl w w.heap.size 1 byteCells A0 n0 seeds) (hl : ∀ (i : Nat) (x : Int), seeds[i]? = some x → 0 ≤ x ∧ x ≤ 255) (hnc : n0 ≤ c0) (hn : n0 ≤ 9223372036854775807) (hc : c0 ≤ 9223372036854775807)
    (hr : Sl w w.heap.size 2 Shr.cells A1 n1 raw) (hnc1 : n1 ≤ c1) (hnul : A1 = none → c1 = 0) (hc1 : c1 ≤ 9223372036854775807)
    (hw : -9223372036854775808 ≤ worker ∧ worker ≤ 9223372036854775807) (hca : -9223372036854775808 ≤ cause ∧ cause ≤ 9223372036854775807) (hk : -9223372036854775808 ≤ k ∧ k ≤ 9223372036854775807) (hst : ∀ (i : Nat) (x : Shr), raw[i]? = some x → -9223372036854775808 ≤ x.steps ∧ x.steps ≤ 9223372036854775807) :
    Calls Try.prog 4 #[.slice A0 n0 c0, .slice A1 n1 c1, .int .i64 worker, .int .i64 cause, .int .i64 k] w fun e w' => e = .returned (.bool true) ∧ Below w.heap.size w w' := by
  obtain ⟨i0, hi, iz0, iz1, iz2⟩ := info_parts infoJ
  have HS := Lib.hid hs
  have HL := Lib.hid hl
  have HR := Lib.hid hr
  have HW := Lib.hid hw
  have HCA := Lib.hid hca
  have HK := Lib.hid hk
  have HST := Lib.hid hst
  have HNUL := Lib.hid hnul
  have HRL := Lib.hid hr.len
  clear hs hl hr hw hca hk hst hnul
  go_enter Try.func4, Try.ntmps4
  go_wp2_with fail
  refine (sane_any _).mono ?_
  rintro e w1 ⟨rfl, hb1⟩
  have hz1 := hb1.size
  by_cases h10 : n1 ≤ 10
  · go_wp2_with fail
    go_loopw [50] (fun i wr => ∃ q : Nat, q ≤ n1 ∧ i = .int .i64 q ∧ Hid (∀ (i : Nat) (x : Shr), i < q → raw[i]? = some x → -1125899906842624 ≤ x.steps ∧ x.steps ≤ 1125899906842624) ∧ Below w.heap.size w wr) (fun i _ => n1 - (intOf i).toNat)
    case atStart => exact ⟨0, Nat.zero_le _, rfl, Lib.hid (fun i x hi => absurd hi (by omega)), hb1⟩
    case round =>
      obtain ⟨q, hq, rfl, hno, hb⟩ := hrel
      have hzz := hb.size
      by_cases hlt : q < n1
      · obtain ⟨ab, ao, rfl, hlo, hat⟩ := HR.out.at_ (by omega)
        obtain ⟨x, hx⟩ : ∃ x, raw[q]? = some x := ⟨_, List.getElem?_eq_getElem (by rw [HRL.out]; exact hlt)⟩
        have c0 : wr.cell? ⟨ab, ao + q * 2, none⟩ = some (.int .i64 x.worker) := (belc hb hlo).trans (hat q x hx 0 _ rfl)
        have c1 : wr.cell? ⟨ab, ao + q * 2 + 1, none⟩ = some (.int .i64 x.steps) := (belc hb hlo).trans (hat q x hx 1 _ rfl)
        have HX := Lib.hid hx
        clear hx hat
        by_cases ha : 1125899906842624 < x.steps
        · go_wp2
          go_ret
          exact ⟨rfl, (by repeat (first | (with_reducible exact hb) | (with_reducible refine Below.drew ?_) | (with_reducible refine below_drewN ?_ _) | (with_reducible refine Below.setCell ?_ ?_ _; rotate_left; (first | omega | (simp <;> omega))) | (with_reducible refine Below.alloc ?_ ?_ _; rotate_left; (first | omega | (simp <;> omega)))))⟩
        · by_cases hb' : x.steps < -1125899906842624
          · go_wp2
            go_ret
            exact ⟨rfl, (by repeat (first | (with_reducible exact hb) | (with_reducible refine Below.drew ?_) | (with_reducible refine below_drewN ?_ _) | (with_reducible refine Below.setCell ?_ ?_ _; rotate_left; (first | omega | (simp <;> omega))) | (with_reducible refine Below.alloc ?_ ?_ _; rotate_left; (first | omega | (simp <;> omega)))))⟩
          · go_wp2
            go_roundw
            case rel =>
              refine ⟨q + 1, by omega, by go_num, Lib.hid (fun j y hj hy => ?_), (by repeat (first | (with_reducible exact hb) | (with_reducible refine Below.drew ?_) | (with_reducible refine below_drewN ?_ _) | (with_reducible refine Below.setCell ?_ ?_ _; rotate_left; (first | omega | (simp <;> omega))) | (with_reducible refine Below.alloc ?_ ?_ _; rotate_left; (first | omega | (simp <;> omega)))))⟩
              by_cases hjm : j = q
              · subst hjm; rw [HX.out] at hy; injection hy with hy; subst hy; omega
              · exact hno.out j y (by omega) hy
            case measure => simp [intOf]; omega
      · obtain rfl : q = n1 := by omega
        have HOKR := Lib.hid (show OkS raw from fun i x hx => hno.out i x (by have := (List.getElem?_eq_some_iff.1 hx).1; rw [HRL.out] at this; exact this) hx)
        clear hno
        go_wp2_with fail
        refine (new_dice A0 n0 c0 seeds wr (HS.out.up hb) HL.out hnc hn hc).mono ?_
        rintro e w2 ⟨d, rfl, hD, hd, hb2⟩
        have hbw2 : Below w.heap.size w w2 := hb.trans (hb2.mono hzz)
        have hdw : w.heap.size ≤ d := by omega
        have hd2 : d < w2.heap.size := hD.lt
        go_wp2_with fail
        refine (made_any d w2 hD).mono ?_
        rintro e w3 ⟨n, A, c, l, JA, jc, js, rfl, hn1, hn4, hjs, hI, hL, hRow, hJ, hT⟩
        have hbw3 : Below w.heap.size w w3 := hbw2.trans (hT.below hdw hbw2.size)
        have ZW3 := hbw3.size
        go_wp2_with fail
        refine (pick_any d 5 w3 hT.dice (by omega) (by omega)).mono ?_
        rintro e w4 ⟨p1, hp1, rfl, t4, -⟩
        go_wp2_with fail
        refine (pick_any d 4 w4 t4.dice (by omega) (by omega)).mono ?_
        rintro e w5 ⟨p2, hp2, rfl, t5, -⟩
        go_wp2_with fail
        refine (pick_any d 5 w5 t5.dice (by omega) (by omega)).mono ?_
        rintro e w6 ⟨p3, hp3, rfl, t6, -⟩
        go_wp2_with fail
        refine (pick_any d 4 w6 t6.dice (by omega) (by omega)).mono ?_
        rintro e w7 ⟨p4, hp4, rfl, t7, -⟩
        have T37 := (t4.trans t5).trans (t6.trans t7)
        have L7 := Lib.hid (hL.out.thrown T37)
        have J7 := Lib.hid (hJ.out.thrown T37)
        have R7 := Lib.hid (hRow.out.kept T37.grown (fun g hg e => by have h1 := (hRow.out.block hg).1; have h2 := hD.lt; injection e with e; omega))
        have D7 := Lib.hid T37.dice
        have B7 : Below w.heap.size w w7 := hbw3.trans (T37.below hdw hbw3.size)
        clear t4 t5 t6 t7 T37 hL hJ hRow hT hD
        obtain ⟨w8, hw8⟩ : ∃ w8, w8 = (w7.alloc (.cells #[.int .i64 p1, .int .i64 p2, .int .i64 (p3 - 1), .int .i64 (p4 - 1)] 46)).alloc (.cells #[.slice A1 q c1, .slice (some ⟨w7.heap.size, 0, none⟩) 2 2] 31) := ⟨_, rfl⟩
        have hb8 : Below w7.heap.size w7 w8 := by rw [hw8]; exact (by repeat (first | (with_reducible exact (Below.refl _ _)) | (with_reducible refine Below.drew ?_) | (with_reducible refine below_drewN ?_ _) | (with_reducible refine Below.setCell ?_ ?_ _; rotate_left; (first | omega | (simp <;> omega))) | (with_reducible refine Below.alloc ?_ ?_ _; rotate_left; (first | omega | (simp <;> omega)))))
        have hz8 : w8.heap.size = w7.heap.size + 2 := by rw [hw8]; simp
        have hpair : Sl w8 w8.heap.size 2 Shr.cells (some ⟨w7.heap.size, 0, none⟩) 2 [⟨(p1 : Int), (p2 : Int)⟩, ⟨(p3 : Int) - 1, (p4 : Int) - 1⟩] := by
          refine ⟨rfl, fun _ => ⟨w7.heap.size, 0, rfl, by omega, fun i x hx j u hu => ?_⟩⟩
          rw [hw8, cell_old _ _ _ _ (by simp), cell_new _ _ _ _ _ rfl, Nat.zero_add, ← Array.getElem?_toList]
          exact flat_get Shr.size [⟨(p1 : Int), (p2 : Int)⟩, ⟨(p3 : Int) - 1, (p4 : Int) - 1⟩] i x hx j u hu
        have hraw8 : Sl w8 w8.heap.size 2 Shr.cells A1 q raw := (HR.out.below (B7.trans (hb8.mono B7.size))).mono (by have := B7.size; have := hb8.size; omega)
        have hlst : Row w8 w7.heap.size 1 (some ⟨w7.heap.size + 1, 0, none⟩) 2 2 (([⟨A1, q, c1, raw⟩, ⟨some ⟨w7.heap.size, 0, none⟩, 2, 2, [⟨(p1 : Int), (p2 : Int)⟩, ⟨(p3 : Int) - 1, (p4 : Int) - 1⟩]⟩] : List Job).flatMap Job.cells) := by
          refine ⟨rfl, Nat.le_refl _, (fun h => by cases h), fun ad h => ?_⟩
          injection h with h
          subst h
          refine ⟨w7.heap.size + 1, 0, rfl, by omega, by omega, fun j u hu => ?_, fun j hj => ⟨?_, ?_⟩⟩
          · rw [hw8, cell_new _ _ _ _ _ (by simp), Nat.zero_add, ← Array.getElem?_toList]; exact hu
          · rw [hw8, cell_new _ _ _ _ _ (by simp), Nat.zero_add]
            match j, hj with
            | 0, _ => rfl
            | 1, _ => rfl
          · rw [hw8, frozen_new _ _ _ _ _ (by simp)]
        have hnice : ∀ j ∈ ([⟨A1, q, c1, raw⟩, ⟨some ⟨w7.heap.size, 0, none⟩, 2, 2, [⟨(p1 : Int), (p2 : Int)⟩, ⟨(p3 : Int) - 1, (p4 : Int) - 1⟩]⟩] : List Job), Nice w8 j := by
          intro j hj
          simp at hj
          rcases hj with rfl | rfl
          · exact ⟨hraw8, HOKR.out, by show q ≤ 31; omega, hnc1, HNUL.out⟩
          · refine ⟨hpair, fun i x hx => ?_, by show 2 ≤ 31; omega, Nat.le_refl _, fun h => by cases h⟩
            match i, hx with
            | 0, hx => simp at hx; subst hx; simp; omega
            | 1, hx => simp at hx; subst hx; simp; omega
        have HP8 := Lib.hid hlst
        have HN8 := Lib.hid hnice
        have L8 := Lib.hid (L7.out.below hb8)
        have J8 := Lib.hid (J7.out.below hb8)
        have R8 := Lib.hid (R7.out.below hb8)
        have D8 := Lib.hid (D7.out.below hb8)
        have B8 : Below w.heap.size w w8 := B7.trans (hb8.mono B7.size)
        have HHD := hb8.size
        have HSW := Lib.hid hw8
        clear hw8
        have hd7 : d < w7.heap.size := D7.out.lt
        have SP8 := Lib.hid (show Sl w8 (w7.heap.size + 1) 2 Shr.cells (some ⟨w7.heap.size, 0, none⟩) 2 [⟨(p1 : Int), (p2 : Int)⟩, ⟨(p3 : Int) - 1, (p4 : Int) - 1⟩] from ⟨rfl, fun h => by obtain ⟨ab, ao, e, _, hat⟩ := hpair.at_ h; injection e with e; injection e with e1 e2; subst e1 e2; exact ⟨_, _, rfl, by omega, hat⟩⟩)
        have SR8 := Lib.hid ((HR.out.below (B7.trans (hb8.mono B7.size))).mono (B' := w7.heap.size + 1) (by have := B7.size; omega))
        have SJ8 : Hid (∀ j ∈ js, Sl w8 (w7.heap.size + 1) 2 Shr.cells j.A j.n j.s) := Lib.hid (fun j hj => ((J7.out j hj).1.sl.below hb8).mono (by omega))
        have SL8 : Hid (Sl w8 (w7.heap.size + 1) 8 Acc.cells A n l) := Lib.hid ((L7.out.sl.below hb8).mono (by omega))
        clear hpair hraw8 hlst hnice L7 J7 R7 D7
        have hJ8d : ∀ g off, JA = some ⟨g, off, none⟩ → d < g := fun g off h => by have := (R8.out.block (k := g) (by rw [h]; rfl)).1; have := hd2; omega
        have HJD := Lib.hid hJ8d
        clear hJ8d
        go_upto_if 87 with fail
        rw [← HSW.out]
        go_cut [16] (fun s16 wx => ∃ (LA : Option Addr) (ln lc : Nat) (xs : List Job), s16 = .slice LA ln lc ∧ ln ≤ 3 ∧ Hid (Sl wx wx.heap.size 1 Job.cells LA ln xs) ∧ Hid (∀ j ∈ xs, Nice wx j) ∧ Hid (Sl wx wx.heap.size 8 Acc.cells A n l) ∧ Below w.heap.size w wx)
        case first =>
          by_cases hj0 : 0 < js.length
          · go_wp2_with fail
            refine (pick_any d js.length w8 D8.out hj0 (by omega)).mono ?_
            rintro e w9 ⟨i, hi9, rfl, t9, hz9⟩
            obtain ⟨j, hj⟩ : ∃ j, js[i]? = some j := ⟨_, List.getElem?_eq_getElem hi9⟩
            have hmem := List.mem_of_getElem? hj
            obtain ⟨g, off, hJA⟩ : ∃ g off, JA = some ⟨g, off, none⟩ := by
              cases JA with
              | none => have := R8.out.nul rfl; have := R8.out.le; omega
              | some ad => obtain ⟨g, off, rfl, _⟩ := R8.out.at_ _ rfl; exact ⟨g, off, rfl⟩
            subst hJA
            obtain ⟨g', off', eg, hg0, hg1, hcell, _⟩ := R8.out.at_ _ rfl
            injection eg with eg eo
            subst eg eo
            have hgd : g ≠ d := by have := HJD.out g off rfl; omega
            have cj : w9.cell? ⟨g, off + i, none⟩ = some (.slice j.A j.n j.c) := (t9.cell hg1 hgd).trans (hcell i _ (job_at hj))
            obtain ⟨F1, F2, F3, F4, F5⟩ := J8.out j hmem
            have SJ9 := Lib.hid (slB_thrown (SJ8.out j hmem) (by omega) t9 (fun hn ad ha => (F1.hi hn ad ha).1))
            have SR9 := Lib.hid (slB_thrown SR8.out (by omega) t9 (fun hn ad ha => by obtain ⟨ab, ao, e, hlt, _⟩ := HR.out.at_ hn; rw [ha] at e; injection e with e; subst e; show ab ≠ d; omega))
            have SP9 := Lib.hid (slB_thrown SP8.out (by omega) t9 (fun hn ad ha => by injection ha with ha; subst ha; show w7.heap.size ≠ d; omega))
            have SL9 := Lib.hid (slB_thrown SL8.out (by omega) t9 (fun hn ad ha => (L8.out.hi hn ad ha).1))
            have R9 := Lib.hid (HP8.out.kept t9.grown (fun g hg e => by injection hg with hg; have hg' : w7.heap.size + 1 = g := hg; injection e with e; omega))
            have B9 : Below w.heap.size w w9 := B8.trans (t9.below hdw B8.size)
            have OKJ := Lib.hid (okS_of F2 F3 (by omega))
            have F5' := Lib.hid F5
            have F4' : j.n ≤ 30 := F4
            have b10 : Below w9.heap.size w9 (w9.alloc (.cells #[.slice j.A j.n j.c] 31)) := (by repeat (first | (with_reducible exact (Below.refl _ _)) | (with_reducible refine Below.drew ?_) | (with_reducible refine below_drewN ?_ _) | (with_reducible refine Below.setCell ?_ ?_ _; rotate_left; (first | omega | (simp <;> omega))) | (with_reducible refine Below.alloc ?_ ?_ _; rotate_left; (first | omega | (simp <;> omega)))))
            have R10 := Lib.hid (R9.out.below b10)
            clear F1 F2 F3 F4 F5 t9 hcell hj
            go_wp2_with (at_builtin; refine wpList_append_row rfl _ _ 47 rfl w7.heap.size 31 i0 _ 1 24 Try.underlying47 hi iz0 iz1 iz2 rfl (by decide) (some ⟨w7.heap.size + 1, 0, none⟩) 2 2 (([⟨A1, q, c1, raw⟩, ⟨some ⟨w7.heap.size, 0, none⟩, 2, 2, [⟨(p1 : Int), (p2 : Int)⟩, ⟨(p3 : Int) - 1, (p4 : Int) - 1⟩]⟩] : List Job).flatMap Job.cells) (by simp [Act.eval]) R10.out (some ⟨w9.heap.size, 0, none⟩) 1 1 [.slice j.A j.n j.c] (by simp [Act.eval]) (by intro h; cases h) rfl (fun ad h j' u hu => by injection h with h; subst h; rw [Addr.add_lit, cell_new _ _ _ _ _ rfl, Nat.zero_add, ← Array.getElem?_toList]; exact hu) (by simp [Value.oneCell']) (by unfold maxLen; omega) (by omega) (by simp; omega) ?_; intro A10 c10 w10 row10 gr10 or10; have B10 : Below (w7.heap.size + 1) w9 w10 := ((Below.refl _ _).alloc (by omega) _).grown gr10 (by simp; omega) (fun k hk => by injection hk with hk; have hk' : w7.heap.size + 1 = k := hk; omega); have R11 := Lib.hid row10; clear row10 gr10 or10)
            go_meet
            refine ⟨A10, 3, c10, ([⟨A1, q, c1, raw⟩, ⟨some ⟨w7.heap.size, 0, none⟩, 2, 2, [⟨(p1 : Int), (p2 : Int)⟩, ⟨(p3 : Int) - 1, (p4 : Int) - 1⟩]⟩] : List Job) ++ [j], rfl, by omega, Lib.hid (Row.sl Job.size rfl (by have := R11.out; simpa [Job.cells] using this)), Lib.hid (fun x hx => ?_), Lib.hid ((SL9.out.below B10).mono (by have := B10.size; omega)), B9.trans (B10.mono (by have := B7.size; omega))⟩
            have hz10 := B10.size
            rcases List.mem_append.1 hx with hx | hx
            · simp at hx
              rcases hx with rfl | rfl
              · exact ⟨(SR9.out.below B10).mono (by omega), HOKR.out, by show q ≤ 31; omega, hnc1, HNUL.out⟩
              · exact ⟨(SP9.out.below B10).mono (by omega), (HN8.out _ (by simp)).2⟩
            · simp at hx
              subst hx
              exact ⟨(SJ9.out.below B10).mono (by omega), OKJ.out, by omega, F5'.out.1, F5'.out.2⟩
          · go_wp2
            go_meet
            exact ⟨_, 2, 2, _, rfl, by omega, Lib.hid (Row.sl Job.size rfl HP8.out), HN8, Lib.hid L8.out.sl, B8⟩
        case rest =>
          obtain ⟨LA, ln, lc, xs, rfl, hln, hX, hN, hA, hBc⟩ := hcut
          clear HP8 HN8 L8 J8 R8 D8 HHD SP8 SR8 SJ8 SL8 HJD HSW hb8 B8 B7
          have HXL := Lib.hid hX.out.len
          go_wp2_with fail
          go_loopw [100] (fun i wr => ∃ t : Nat, t ≤ ln ∧ i = .int .i64 t ∧ Below wc.heap.size wc wr) (fun i _ => ln - (intOf i).toNat)
          case atStart => exact ⟨0, Nat.zero_le _, rfl, Below.refl _ _⟩
          case round =>
            obtain ⟨t, ht, rfl, hbt⟩ := hrel
            have B0 : Below w.heap.size w wr := hBc.trans (hbt.mono hBc.size)
            have A0' := Lib.hid (hA.out.up hbt)
            by_cases hlt : t < ln
            · obtain ⟨lb, lo, rfl, hlo, hat⟩ := hX.out.at_ (by omega)
              obtain ⟨j, hj⟩ : ∃ j, xs[t]? = some j := ⟨_, List.getElem?_eq_getElem (by rw [HXL.out]; exact hlt)⟩
              have cj : wr.cell? ⟨lb, lo + t, none⟩ = some (.slice j.A j.n j.c) := by have := (belc hbt hlo).trans (hat t j hj 0 _ rfl); rwa [Nat.mul_one, Nat.add_zero] at this
              have NJ := Lib.hid ((hN.out j (List.mem_of_getElem? hj)).up hbt)
              have hokl : Ok 1000000 l := hI.out.ok.le (by omega)
              have HOKL := Lib.hid hokl
              have hll : l.length = n := hI.out.len
              have HLL := Lib.hid hll
              have jn31 : j.n ≤ 31 := NJ.out.2.2.1
              clear hat hj hokl hll
              rename World => wr1
              have NJ1 := NJ
              have A1' := A0'
              clear NJ A0'
              go_wp2_with fail
              obtain ⟨kr, hkr⟩ : ∃ r, r = moveE 0 l j.s := ⟨_, rfl⟩
              have kl : kr.1.length ≤ 8 := by rw [hkr]; have := moveE_len (f := 0) (by omega) l j.s HOKL.out; have := HLL.out; omega
              refine (keep_any A n c l j.A j.n j.c j.s wr1 A1'.out NJ1.out.1 (by omega) (by omega) HOKL.out).mono ?_
              rw [← hkr]
              rintro e k1 ⟨kA, kc, rfl, ks, kb1, -⟩
              have kS := Lib.hid ks
              clear ks
              go_wp2_with fail
              refine (refkeep_any A n c l j.A j.n j.c j.s k1 (A1'.out.up kb1) (NJ1.out.1.up kb1) (by omega) (by omega) HOKL.out).mono ?_
              rw [← hkr]
              rintro e k2 ⟨kB, kd, rfl, kt, kb2, -⟩
              have kT := Lib.hid kt
              clear kt hkr
              obtain ⟨kx, ke⟩ := kr
              go_wp2_with fail
              refine (same_accounts kA kx.length kc kB kd kx k2 (kS.out.up kb2) kT.out (by have h : kx.length ≤ 8 := kl; omega)).mono ?_
              rintro e k3 ⟨rfl, kb3⟩
              have kbb : Below wr1.heap.size wr1 k3 := (kb1.trans (kb2.mono kb1.size)).trans (kb3.mono (by have := kb1.size; have := kb2.size; omega))
              go_wp2_with fail
              refine (sum_any j.A j.n j.c j.s k3 (NJ1.out.1.up kbb) (by omega) NJ1.out.2.1).mono ?_
              rintro e k4 ⟨rfl, kb4⟩
              have kbb4 : Below wr1.heap.size wr1 k4 := kbb.trans (kb4.mono kbb.size)
              go_wp2_with fail
              refine (refsum_any j.A j.n j.c j.s k4 (NJ1.out.1.up kbb4) (by omega) NJ1.out.2.1).mono ?_
              rintro e wr2 ⟨rfl, kb5⟩
              have bw21 : Below wr1.heap.size wr1 wr2 := kbb4.trans (kb5.mono kbb4.size)
              have A2 := Lib.hid (A1'.out.up bw21)
              have NJ2 := Lib.hid (NJ1.out.up bw21)
              go_wp2_with fail
              refine (mod_any cause 8 wr2 (by omega) (by omega) HCA.out).mono ?_
              rintro e ya ⟨z, hz, -, rfl, bya⟩
              obtain ⟨wi, hwi⟩ : ∃ wi, wi = ya.alloc (.cells #[.int .i64 cause, .int .i64 ((z : Int) - 1)] 3) := ⟨_, rfl⟩
              have bwi : Below wr2.heap.size wr2 wi := bya.trans (by rw [hwi]; exact (Below.refl _ _).alloc bya.size _)
              have qwi : ∀ t, t < 2 → ∃ v, wi.cell? ⟨ya.heap.size, t, none⟩ = some (.int .i64 v) := fun t ht => by
                rw [hwi]
                match t, ht with
                | 0, _ => exact ⟨_, by rw [cell_new _ _ _ _ _ rfl]; rfl⟩
                | 1, _ => exact ⟨_, by rw [cell_new _ _ _ _ _ rfl]; rfl⟩
              have lwi : ya.heap.size < wi.heap.size := by rw [hwi]; simp
              have Qwi := Lib.hid qwi
              clear qwi
              go_wp2_with fail
              rw [← hwi]
              have Hwi := Lib.hid hwi
              clear hwi
              go_loopw [138] (fun i wr => ∃ t2 : Nat, t2 ≤ 2 ∧ i = .int .i64 t2 ∧ Below wi.heap.size wi wr) (fun i _ => 2 - (intOf i).toNat)
              case atStart => exact ⟨0, by omega, rfl, Below.refl _ _⟩
              case round =>
                obtain ⟨t2, ht2, rfl, hbwi⟩ := hrel
                by_cases hlwi : t2 < 2
                · obtain ⟨v, hv⟩ := Qwi.out t2 hlwi
                  have cv := (belc hbwi (o := t2) lwi).trans hv
                  clear hv
                  go_wp2_with fail
                  have bA : Below wr2.heap.size wr2 wr := bwi.trans (hbwi.mono bwi.size)
                  have lA := Lib.hid (A2.out.up bA)
                  have lJ := Lib.hid (NJ2.out.up bA)
                  obtain ⟨qr, hqr⟩ : ∃ r, r = loseE v l j.s := ⟨_, rfl⟩
                  have ql : qr.1.length ≤ 8 := by rw [hqr]; have := loseE_len v l j.s HOKL.out; have := HLL.out; omega
                  refine (lose_any A n c l v j.A j.n j.c j.s wr lA.out lJ.out.1 (by omega) (by omega) HOKL.out).mono ?_
                  rw [← hqr]
                  rintro e q1 ⟨qA, qc, rfl, qs, qb1, -⟩
                  have qS := Lib.hid qs
                  clear qs
                  go_wp2_with fail
                  refine (reflose_any A n c l v j.A j.n j.c j.s q1 (lA.out.up qb1) (lJ.out.1.up qb1) (by omega) (by omega) HOKL.out).mono ?_
                  rw [← hqr]
                  rintro e q2 ⟨qB, qd, rfl, qt, qb2, -⟩
                  have qT := Lib.hid qt
                  clear qt hqr
                  obtain ⟨qx, qe⟩ := qr
                  go_wp2_with fail
                  refine (same_accounts qA qx.length qc qB qd qx q2 (qS.out.up qb2) qT.out (by have h : qx.length ≤ 8 := ql; omega)).mono ?_
                  rintro e q3 ⟨rfl, qb3⟩
                  have qbb : Below wr.heap.size wr q3 := (qb1.trans (qb2.mono qb1.size)).trans (qb3.mono (by have := qb1.size; have := qb2.size; omega))
                  go_wp2
                  go_roundw
                  case rel => exact ⟨t2 + 1, by omega, by go_num, hbwi.trans (qbb.mono hbwi.size)⟩
                  case measure => simp [intOf]; omega
                · obtain rfl : t2 = 2 := by omega
                  rename World => wr3
                  have bw31 : Below wr1.heap.size wr1 wr3 := (bw21.trans (bwi.mono bw21.size)).trans (hbwi.mono (by have := bw21.size; have := bwi.size; omega))
                  have NJ3 := Lib.hid (NJ1.out.up bw31)
                  go_wp2_with fail
                  refine (mod_any worker 5 wr3 (by omega) (by omega) HW.out).mono ?_
                  rintro e yb ⟨z, hz, -, rfl, byb⟩
                  obtain ⟨wj, hwj⟩ : ∃ wj, wj = yb.alloc (.cells #[.int .i64 worker, .int .i64 (z : Int)] 3) := ⟨_, rfl⟩
                  have bwj : Below wr3.heap.size wr3 wj := byb.trans (by rw [hwj]; exact (Below.refl _ _).alloc byb.size _)
                  have qwj : ∀ t, t < 2 → ∃ v, wj.cell? ⟨yb.heap.size, t, none⟩ = some (.int .i64 v) := fun t ht => by
                    rw [hwj]
                    match t, ht with
                    | 0, _ => exact ⟨_, by rw [cell_new _ _ _ _ _ rfl]; rfl⟩
                    | 1, _ => exact ⟨_, by rw [cell_new _ _ _ _ _ rfl]; rfl⟩
                  have lwj : yb.heap.size < wj.heap.size := by rw [hwj]; simp
                  have Qwj := Lib.hid qwj
                  clear qwj
                  go_wp2_with fail
                  rw [← hwj]
                  have Hwj := Lib.hid hwj
                  clear hwj
                  go_loopw [171] (fun i wr => ∃ t2 : Nat, t2 ≤ 2 ∧ i = .int .i64 t2 ∧ Below wj.heap.size wj wr) (fun i _ => 2 - (intOf i).toNat)
                  case atStart => exact ⟨0, by omega, rfl, Below.refl _ _⟩
                  case round =>
                    obtain ⟨t2, ht2, rfl, hbwj⟩ := hrel
                    by_cases hlwj : t2 < 2
                    · obtain ⟨v, hv⟩ := Qwj.out t2 hlwj
                      have cv := (belc hbwj (o := t2) lwj).trans hv
                      clear hv
                      go_wp2_with fail
                      have bA : Below wr3.heap.size wr3 wr := bwj.trans (hbwj.mono bwj.size)
                      have lJ := Lib.hid (NJ3.out.up bA)
                      have hal := addS_len j.s v
                      have hjl : j.s.length ≤ 31 := by rw [lJ.out.1.len]; exact jn31
                      refine (add_any j.A j.n j.c j.s v wr lJ.out.1 (by omega) lJ.out.2.1).mono ?_
                      rintro e s1 ⟨sA, sn, sc, rfl, hsn, ss, sb1, -, -⟩
                      have HSN := Lib.hid hsn
                      have SS := Lib.hid ss
                      clear hsn ss
                      go_wp2_with fail
                      refine (refadd_any j.A j.n j.c j.s v s1 (lJ.out.1.up sb1) (by omega) lJ.out.2.1 lJ.out.2.2.2.1 lJ.out.2.2.2.2).mono ?_
                      rintro e s2 ⟨sB, sm, sd, rfl, hsm, st, sb2, -, -⟩
                      have hsnm : sm = sn := hsm.trans HSN.out.symm
                      subst hsnm
                      have ST := Lib.hid st
                      have hsn32 : sm ≤ 32 := by have := HSN.out; omega
                      clear hsm st
                      go_wp2_with fail
                      refine (same_shares sA sm sc sB sd (addS j.s v) s2 (SS.out.up sb2) ST.out (by omega)).mono ?_
                      rintro e s3 ⟨rfl, sb3⟩
                      have sbb : Below wr.heap.size wr s3 := (sb1.trans (sb2.mono sb1.size)).trans (sb3.mono (by have := sb1.size; have := sb2.size; omega))
                      go_wp2
                      go_roundw
                      case rel => exact ⟨t2 + 1, by omega, by go_num, hbwj.trans (sbb.mono hbwj.size)⟩
                      case measure => simp [intOf]; omega
                    · obtain rfl : t2 = 2 := by omega
                      have bE : Below wr1.heap.size wr1 wr := (bw31.trans (bwj.mono bw31.size)).trans (hbwj.mono (by have := bw31.size; have := bwj.size; omega))
                      go_wp2
                      go_roundw
                      case rel => exact ⟨t + 1, by omega, by go_num, hbt.trans (bE.mono hbt.size)⟩
                      case measure => simp [intOf]; omega
            · rename World => wr1
              obtain rfl : t = ln := by omega
              have HOKL := Lib.hid (hI.out.ok.le (show (30 : Int) ≤ 1000000 by omega) : Ok 1000000 l)
              have HLL := Lib.hid (show l.length = n from hI.out.len)
              go_wp2_with fail
              refine (mod_any worker 6 wr1 (by omega) (by omega) HW.out).mono ?_
              rintro e yc ⟨z, hz, -, rfl, byc⟩
              obtain ⟨wm, hwm⟩ : ∃ wm, wm = yc.alloc (.cells #[.int .i64 worker, .int .i64 ((z : Int) - 1)] 3) := ⟨_, rfl⟩
              have bwm : Below wr1.heap.size wr1 wm := byc.trans (by rw [hwm]; exact (Below.refl _ _).alloc byc.size _)
              have qwm : ∀ t, t < 2 → ∃ v, wm.cell? ⟨yc.heap.size, t, none⟩ = some (.int .i64 v) := fun t ht => by
                rw [hwm]
                match t, ht with
                | 0, _ => exact ⟨_, by rw [cell_new _ _ _ _ _ rfl]; rfl⟩
                | 1, _ => exact ⟨_, by rw [cell_new _ _ _ _ _ rfl]; rfl⟩
              have lwm : yc.heap.size < wm.heap.size := by rw [hwm]; simp
              have Qwm := Lib.hid qwm
              clear qwm
              go_wp2_with fail
              rw [← hwm]
              have Hwm := Lib.hid hwm
              clear hwm
              go_loopw [191] (fun i wr => ∃ t2 : Nat, t2 ≤ 2 ∧ i = .int .i64 t2 ∧ Below wm.heap.size wm wr) (fun i _ => 2 - (intOf i).toNat)
              case atStart => exact ⟨0, by omega, rfl, Below.refl _ _⟩
              case round =>
                obtain ⟨t2, ht2, rfl, hbwm⟩ := hrel
                by_cases hlwm : t2 < 2
                · obtain ⟨v, hv⟩ := Qwm.out t2 hlwm
                  have cv := (belc hbwm (o := t2) lwm).trans hv
                  clear hv
                  go_wp2_with fail
                  have bA : Below wr1.heap.size wr1 wr := bwm.trans (hbwm.mono bwm.size)
                  have lA := Lib.hid (A0'.out.up bA)
                  obtain ⟨qr, hqr⟩ : ∃ r, r = stepE l v := ⟨_, rfl⟩
                  have ql : qr.1.length ≤ 8 := by rw [hqr]; have := stepE_len l v; have := HLL.out; omega
                  refine (step_any A n c l v wr lA.out (by omega) HOKL.out).mono ?_
                  rw [← hqr]
                  rintro e q1 ⟨qA, qc, rfl, qs, qb1, -⟩
                  have qS := Lib.hid qs
                  clear qs
                  go_wp2_with fail
                  refine (refstep_any A n c l v q1 (lA.out.up qb1) (by omega) HOKL.out).mono ?_
                  rw [← hqr]
                  rintro e q2 ⟨qB, qd, rfl, qt, qb2, -⟩
                  have qT := Lib.hid qt
                  clear qt hqr
                  obtain ⟨qx, qe⟩ := qr
                  go_wp2_with fail
                  refine (same_accounts qA qx.length qc qB qd qx q2 (qS.out.up qb2) qT.out (by have h : qx.length ≤ 8 := ql; omega)).mono ?_
                  rintro e q3 ⟨rfl, qb3⟩
                  have qbb : Below wr.heap.size wr q3 := (qb1.trans (qb2.mono qb1.size)).trans (qb3.mono (by have := qb1.size; have := qb2.size; omega))
                  go_wp2
                  go_roundw
                  case rel => exact ⟨t2 + 1, by omega, by go_num, hbwm.trans (qbb.mono hbwm.size)⟩
                  case measure => simp [intOf]; omega
                · obtain rfl : t2 = 2 := by omega
                  rename World => wr2
                  have bw21 : Below wr1.heap.size wr1 wr2 := bwm.trans (hbwm.mono bwm.size)
                  go_wp2_with fail
                  refine (mod_any k 12 wr2 (by omega) (by omega) HK.out).mono ?_
                  rintro e yd ⟨z, hz, -, rfl, byd⟩
                  obtain ⟨wn, hwn⟩ : ∃ wn, wn = yd.alloc (.cells #[.int .i64 k, .int .i64 ((z : Int) - 1)] 3) := ⟨_, rfl⟩
                  have bwn : Below wr2.heap.size wr2 wn := byd.trans (by rw [hwn]; exact (Below.refl _ _).alloc byd.size _)
                  have qwn : ∀ t, t < 2 → ∃ v, wn.cell? ⟨yd.heap.size, t, none⟩ = some (.int .i64 v) := fun t ht => by
                    rw [hwn]
                    match t, ht with
                    | 0, _ => exact ⟨_, by rw [cell_new _ _ _ _ _ rfl]; rfl⟩
                    | 1, _ => exact ⟨_, by rw [cell_new _ _ _ _ _ rfl]; rfl⟩
                  have lwn : yd.heap.size < wn.heap.size := by rw [hwn]; simp
                  have Qwn := Lib.hid qwn
                  clear qwn
                  go_wp2_with fail
                  rw [← hwn]
                  have Hwn := Lib.hid hwn
                  clear hwn
                  go_loopw [223] (fun i wr => ∃ t2 : Nat, t2 ≤ 2 ∧ i = .int .i64 t2 ∧ Below wn.heap.size wn wr) (fun i _ => 2 - (intOf i).toNat)
                  case atStart => exact ⟨0, by omega, rfl, Below.refl _ _⟩
                  case round =>
                    obtain ⟨t2, ht2, rfl, hbwn⟩ := hrel
                    by_cases hlwn : t2 < 2
                    · obtain ⟨v, hv⟩ := Qwn.out t2 hlwn
                      have cv := (belc hbwn (o := t2) lwn).trans hv
                      clear hv
                      go_wp2_with fail
                      obtain ⟨qr, hqr⟩ : ∃ r, r = newE v := ⟨_, rfl⟩
                      have ql : qr.1.length ≤ 8 := by rw [hqr]; have := newE_len v; have := HLL.out; omega
                      refine (new_all v wr).mono ?_
                      rw [← hqr]
                      rintro e q1 ⟨qA, qc, rfl, qs, qb1, -⟩
                      have qS := Lib.hid qs
                      clear qs
                      go_wp2_with fail
                      refine (refnew_all v q1).mono ?_
                      rw [← hqr]
                      rintro e q2 ⟨qB, qd, rfl, qt, qb2, -⟩
                      have qT := Lib.hid qt
                      clear qt hqr
                      obtain ⟨qx, qe⟩ := qr
                      go_wp2_with fail
                      refine (same_accounts qA qx.length qc qB qd qx q2 (qS.out.up qb2) qT.out (by have h : qx.length ≤ 8 := ql; omega)).mono ?_
                      rintro e q3 ⟨rfl, qb3⟩
                      have qbb : Below wr.heap.size wr q3 := (qb1.trans (qb2.mono qb1.size)).trans (qb3.mono (by have := qb1.size; have := qb2.size; omega))
                      go_wp2
                      go_roundw
                      case rel => exact ⟨t2 + 1, by omega, by go_num, hbwn.trans (qbb.mono hbwn.size)⟩
                      case measure => simp [intOf]; omega
                    · obtain rfl : t2 = 2 := by omega
                      have bE : Below wr1.heap.size wr1 wr := (bw21.trans (bwn.mono bw21.size)).trans (hbwn.mono (by have := bw21.size; have := bwn.size; omega))
                      have BE : Below w.heap.size w wr := B0.trans (bE.mono B0.size)
                      have AE := Lib.hid (A0'.out.up bE)
                      have HOV := Lib.hid (tot_ok hI.out.ok HLL.out hn4)
                      have e6 := eq_six (totF l 1) (totF l 2) (totF l 3) (totF l 4) (totF l 5) (totF l 6)
                      have hv : (totF l).value = .agg #[.int .i64 (totF l 0), .int .i64 (totF l 1), .int .i64 (totF l 2), .int .i64 (totF l 3), .int .i64 (totF l 4), .int .i64 (totF l 5), .int .i64 (totF l 6), .int .i64 (totF l 7)] := rfl
                      have HV := Lib.hid hv
                      clear hv
                      go_wp2_with fail
                      refine (totals_any A n c l wr AE.out (by omega) HOKL.out).mono ?_
                      rintro e f1 ⟨rfl, fb1⟩
                      rw [HV.out]
                      go_wp2_with fail
                      refine (reftotals_any A n c l f1 (AE.out.up fb1) (by omega) HOKL.out).mono ?_
                      rintro e f2 ⟨rfl, fb2⟩
                      rw [HV.out]
                      have fc2 : Below wr.heap.size wr f2 := fb1.trans (fb2.mono fb1.size)
                      go_wp2_with fail
                      refine (totals_any A n c l f2 (AE.out.up fc2) (by omega) HOKL.out).mono ?_
                      rintro e f3 ⟨rfl, fb3⟩
                      rw [HV.out]
                      have fc3 : Below wr.heap.size wr f3 := fc2.trans (fb3.mono fc2.size)
                      go_wp2_with fail
                      refine (lost_any (totF l) 1000 (by omega) HOV.out f3).mono ?_
                      rintro e f4 ⟨rfl, fb4⟩
                      have fc4 : Below wr.heap.size wr f4 := fc3.trans (fb4.mono fc3.size)
                      go_wp2_with fail
                      refine (reftotals_any A n c l f4 (AE.out.up fc4) (by omega) HOKL.out).mono ?_
                      rintro e f5 ⟨rfl, fb5⟩
                      rw [HV.out]
                      have fc5 : Below wr.heap.size wr f5 := fc4.trans (fb5.mono fc4.size)
                      go_wp2_with fail
                      refine (reflost_any (totF l) 1000 (by omega) HOV.out f5).mono ?_
                      rintro e f6 ⟨rfl, fb6⟩
                      have fc6 : Below wr.heap.size wr f6 := fc5.trans (fb6.mono fc5.size)
                      have BF : Below w.heap.size w f6 := BE.trans (fc6.mono BE.size)
                      go_wp2
                      go_ret
                      exact ⟨rfl, BF⟩
  · go_wp2
    go_ret
    exact ⟨rfl, hb1⟩
end Go.Proofs.Ytignbncphdemlaa
