/- Of threads that all want to change one word, one succeeds: the walk. -/
import Derived.Test.YtnomghcieomjmaaSn
import Derived.Test.YtnomghcieomjmaaTw
import Derived.Test.YtnomghcieomjmaaSW
import Derived.Test.YtnomghcieomjmaaDMod
namespace Go.Proofs.Ytnomghcieomjmaa
open Go.RowKit

theorem swT_snoc (fs : List Bool) (f : Bool) : swT (fs ++ [f]) = swT fs ++ [swl fs.length f] := by
  unfold swT; rw [List.mapIdx_append]; simp

theorem Sl.drop1 {w : World} {B b k : Nat} {x : POp} {l : List POp} (h : Sl w B 5 POp.cells (some ⟨b, 0, none⟩) (k + 1) (x :: l)) : Sl w B 5 POp.cells (some ⟨b, 5, none⟩) k l := by
  refine ⟨by have := h.len; simpa using this, fun _ => ?_⟩
  obtain ⟨ab, ao, e, hlt, hc⟩ := h.at_ (by omega)
  injection e with e
  injection e with e1 e2
  subst e1 e2
  refine ⟨b, 5, rfl, hlt, fun i y hy j u hu => ?_⟩
  have := hc (i + 1) y (by simpa using hy) j u hu
  rwa [show (0 : Nat) + ((i + 1) * 5 + j) = 5 + (i * 5 + j) from by omega] at this
theorem step_facts {m : Int} {fs : List Bool} {mem : Nat → Int} {ts : List Pt} {v : Mv} (h : v ∈ movesP m (swT fs) ts) (hs : SwI fs mem ts) : SwI fs (stepF m (swT fs) mem ts v).1 (stepF m (swT fs) mem ts v).2 ∧ left2 (swT fs) (stepF m (swT fs) mem ts v).2 < left2 (swT fs) ts := by
  obtain ⟨mem', ts', hst⟩ := mem_stp mem h
  rw [stp_fun hst]
  exact ⟨sw_stp hs hst, stp_left hst⟩
theorem StAt.like {w : World} {b n c : Nat} {mem mem' : Nat → Int} {A : Option Addr} (h : StAt w b mem A n c) (h0 : mem 0 = mem' 0) (h1 : mem 1 = mem' 1) (h2 : mem 2 = mem' 2) (h3 : mem 3 = mem' 3) : StAt w b mem' A n c := by
  refine ⟨?_, h.fr⟩
  have := h.at_
  unfold stCells at this ⊢
  rw [h0, h1, h2, h3] at this
  exact this
/-- A state's five cells, stored one after the other. -/
theorem StAt.five {w : World} {b n c : Nat} {mem : Nat → Int} {A : Option Addr} (h : StAt w b mem A n c) (mem' : Nat → Int) (A' : Option Addr) (n' c' : Nat) : StAt (((((w.setCell ⟨b, 0, none⟩ (.int .i64 (mem' 0))).setCell ⟨b, 1, none⟩ (.int .i64 (mem' 1))).setCell ⟨b, 2, none⟩ (.int .i64 (mem' 2))).setCell ⟨b, 3, none⟩ (.int .i64 (mem' 3))).setCell ⟨b, 4, none⟩ (.slice A' n' c')) b mem' A' n' c' := by
  refine (StAt.setS ((((h.setMem (i := 0) (by decide) _).setMem (i := 1) (by decide) _).setMem (i := 2) (by decide) _).setMem (i := 3) (by decide) _) _ _ _).like ?_ ?_ ?_ ?_ <;> simp [upd]
theorem grown_one (w : World) (b o : Nat) (v : Value) : w.grownBy (w.setCell ⟨b, o, none⟩ v) (some b) := ⟨rfl, rfl, rfl, by simp, fun k hk hkr => Below.heap_setCell w ⟨b, o, none⟩ v k (fun e => hkr (by rw [e]))⟩
theorem grown_five (w : World) (b : Nat) (v0 v1 v2 v3 v4 : Value) : w.grownBy (((((w.setCell ⟨b, 0, none⟩ v0).setCell ⟨b, 1, none⟩ v1).setCell ⟨b, 2, none⟩ v2).setCell ⟨b, 3, none⟩ v3).setCell ⟨b, 4, none⟩ v4) (some b) :=
  ((((grown_one w b 0 v0).trans (grown_one _ b 1 v1)).trans (grown_one _ b 2 v2)).trans (grown_one _ b 3 v3)).trans (grown_one _ b 4 v4)
theorem Dice.grown {w w' : World} {d : Nat} {row : Option Nat} (h : Dice w d) (hg : w.grownBy w' row) (hr : ∀ g, row = some g → d < g) : Dice w' d := by
  obtain ⟨hd, S, sn, sc, a, h0, h1, h2, h3, h4, h5⟩ := h
  have key : ∀ b, b ≤ d → (some b : Option Nat) ≠ row := fun b hb e => by have := hr b e.symm; omega
  refine ⟨by have := hg.size; omega, S, sn, sc, a, ((gcell hg).1 _ _ hd (key _ (Nat.le_refl _))).trans h0, ((gcell hg).1 _ _ hd (key _ (Nat.le_refl _))).trans h1, ((gcell hg).2 _ _ hd (key _ (Nat.le_refl _))).trans h2, h3, h4, fun i hi => ?_⟩
  obtain ⟨sb, so, x, e, hlt, h6, h7, h8⟩ := h5 i hi
  exact ⟨sb, so, x, e, hlt, h6, h7, ((gcell hg).1 _ _ (by omega) (key _ (by omega))).trans h8⟩

set_option maxRecDepth 100000 in
set_option maxHeartbeats 4000000 in
theorem swaps_any (S : Option Addr) (sn sc : Nat) (sl : List Int) (th mo : Int) (w : World) (hs : Sl w w.heap.size 1 byteCells S sn sl) (hl : ∀ (i : Nat) (x : Int), sl[i]? = some x → 0 ≤ x ∧ x ≤ 255) (hnc : sn ≤ sc) (hn : sn ≤ 9223372036854775807) (hc : sc ≤ 9223372036854775807) (h1 : -9223372036854775808 ≤ th ∧ th ≤ 9223372036854775807) (h2 : -9223372036854775808 ≤ mo ∧ mo ≤ 9223372036854775807) :
    Calls Try.prog 5 #[.slice S sn sc, .int .i64 th, .int .i64 mo] w fun e w' => e = .returned (.bool true) ∧ Below w.heap.size w w' := by
  obtain ⟨i0, hi, iz0, iz1, iz2⟩ := info_parts infoOps
  have HS := Lib.hid hs
  have HL := Lib.hid hl
  have HTH := Lib.hid h1
  have HMO := Lib.hid h2
  have HNC := Lib.hid hnc
  clear hs hl h1 h2
  obtain ⟨R, hR2, hR⟩ : ∃ R : Nat, R < 2 ∧ (R : Int) = th % 2 := ⟨(th % 2).toNat, by omega, by omega⟩
  have HR := Lib.hid hR
  clear hR
  go_enter Try.func5, Try.ntmps5
  go_wp2_with fail
  refine (sane_any w).mono ?_
  rintro e w1 ⟨rfl, hb1⟩
  go_wp2_with fail
  refine (new_dice S sn sc sl w1 (HS.out.up hb1) HL.out HNC.out hn hc).mono ?_
  rintro e w2 ⟨d, rfl, hD, hd, hb2⟩
  have hbw2 : Below w.heap.size w w2 := hb1.trans (hb2.mono hb1.size)
  have hdl := hD.lt
  have HD2 := Lib.hid hD
  have hdw : w.heap.size ≤ d := by have := hb1.size; omega
  clear hD
  go_upto_region 6 with fail
  go_loopw [8, 9] (fun tv iv wr => ∃ (k : Nat) (fs : List Bool) (A : Option Addr) (c : Nat) (l : List Th), k ≤ 2 + R ∧ tv = .slice A k c ∧ iv = .int .i64 k ∧ Hid (Mk wr w2.heap.size d A k c l) ∧ Hid (l.map Th.s = swT fs) ∧ Hid (fs.length = k) ∧ Hid (Dice wr d) ∧ Below w.heap.size w wr ∧ w2.heap.size ≤ wr.heap.size) (fun _ iv _ => 2 + R - (intOf iv).toNat)
  case atStart => exact ⟨0, [], none, 0, [], by omega, rfl, rfl, Lib.hid (Mk.nil _ _ _), Lib.hid rfl, Lib.hid rfl, HD2, hbw2, Nat.le_refl _⟩
  case round =>
    obtain ⟨k, fs, A, c, l, hk, rfl, rfl, hM, hfs, hfl, hDi, hbr, hzr⟩ := hrel
    go_wp2_with fail
    refine (mod_any th 2 wr (by decide) (by decide) HTH.out).mono ?_
    rintro e x1 ⟨r, hr, hre, rfl, hx1⟩
    obtain rfl : r = R := by have := HR.out; omega
    clear hre
    have M1 := Lib.hid (hM.out.below hx1)
    have D1 := Lib.hid (hDi.out.below hx1)
    have hbx1 : Below w.heap.size w x1 := hbr.trans (hx1.mono hbr.size)
    have hzx1 := hx1.size
    by_cases hlt : k < 2 + r
    · have hltI : (k : Int) < 2 + (r : Int) := by omega
      obtain ⟨X, hX⟩ : ∃ X, X = x1.alloc (.cells #[.int .i64 1, .int .i64 1, .int .i64 (1 + k), .int .i64 0, .int .i64 0, .int .i64 4, .int .i64 0, .int .i64 0, .int .i64 (3 + k), .int .i64 0, .int .i64 2, .int .i64 0, .int .i64 0, .int .i64 0, .int .i64 1] 51) := ⟨_, rfl⟩
      have hbX : Below x1.heap.size x1 X := by rw [hX]; exact (by repeat (first | (with_reducible exact (Below.refl _ _)) | (with_reducible refine Below.drew ?_) | (with_reducible refine below_drewN ?_ _) | (with_reducible refine Below.setCell ?_ ?_ _; rotate_left; (first | omega | (simp <;> omega))) | (with_reducible refine Below.alloc ?_ ?_ _; rotate_left; (first | omega | (simp <;> omega)))))
      have hzX : X.heap.size = x1.heap.size + 1 := by rw [hX]; simp
      have SX := Lib.hid (show Sl X X.heap.size 5 POp.cells (some ⟨x1.heap.size, 0, none⟩) 3 [⟨1, 1, 1 + k, 0, 0⟩, ⟨4, 0, 0, 3 + k, 0⟩, ⟨2, 0, 0, 0, 1⟩] from by rw [hX]; exact Sl.fresh POp.size x1 _ _ _ rfl rfl)
      have M2 := Lib.hid (M1.out.below hbX)
      have D2 := Lib.hid (D1.out.below hbX)
      go_upto_region 9 with fail
      rw [← hX]
      have HX := Lib.hid hX
      clear hX
      go_wp2_with fail
      refine (pick_any d 2 X D2.out (by decide) (by decide)).mono ?_
      rintro e x3 ⟨p, hp, rfl, t3, y3⟩
      have M3 := Lib.hid (M2.out.thrown t3 hdl)
      have D3 := Lib.hid t3.dice
      have S3 := Lib.hid (SX.out.thrown t3 (fun _ ad e => by injection e with e; subst e; show x1.heap.size ≠ d; omega))
      have hbX2 : Below w.heap.size w X := hbx1.trans (hbX.mono hbx1.size)
      have hbx3 : Below w.heap.size w x3 := hbX2.trans (t3.below hdw hbX2.size)
      have hbl := Lib.hid (show ∀ g, blkOf A = some g → g < x1.heap.size from fun g hg => (M1.out.row.block hg).2)
      have hbd := Lib.hid (show ∀ g, blkOf A = some g → w2.heap.size ≤ g from fun g hg => (M1.out.row.block hg).1)
      have hz3 : w2.heap.size ≤ x3.heap.size := by omega
      have hX1 : x1.heap.size < x3.heap.size := by omega
      clear t3 y3
      have hp' : p = 0 ∨ p = 1 := by omega
      clear hp
      rcases hp' with rfl | rfl
      · skip
        have b4 : Below x3.heap.size x3 (x3.alloc (.cells #[.slice (some ⟨x1.heap.size, 0, none⟩) 3 3] 49)) := (by repeat (first | (with_reducible exact (Below.refl _ _)) | (with_reducible refine Below.drew ?_) | (with_reducible refine below_drewN ?_ _) | (with_reducible refine Below.setCell ?_ ?_ _; rotate_left; (first | omega | (simp <;> omega))) | (with_reducible refine Below.alloc ?_ ?_ _; rotate_left; (first | omega | (simp <;> omega)))))
        have M4 := Lib.hid (M3.out.below b4)
        have D4 := Lib.hid (D3.out.below b4)
        have S4 := Lib.hid ((S3.out).up b4)
        go_wp2_with (at_builtin; refine wpList_append_row rfl _ _ 26 rfl w2.heap.size 49 i0 _ 1 24 Try.underlying26 hi iz0 iz1 iz2 rfl (by decide) A k c (l.flatMap Th.cells) (by simp [Act.eval]) M4.out.row (some ⟨x3.heap.size, 0, none⟩) 1 1 [.slice (some ⟨x1.heap.size, 0, none⟩) 3 3] (by simp [Act.eval]) (by intro h; cases h) rfl (fun ad h j' u hu => by injection h with h; subst h; rw [Addr.add_lit, cell_new _ _ _ _ _ rfl, Nat.zero_add, ← Array.getElem?_toList]; exact hu) (by simp [Value.oneCell']) (by unfold maxLen; omega) (by omega) (by simp; omega) ?_; intro A5 c5 x5 row5 gr5 or5; have M5 := Lib.hid (M4.out.snoc (t := ⟨some ⟨x1.heap.size, 0, none⟩, 3, 3, [⟨1, 1, 1 + k, 0, 0⟩, ⟨4, 0, 0, 3 + k, 0⟩, ⟨2, 0, 0, 0, 1⟩]⟩) row5 gr5 or5 S4.out (fun _ ad e => by injection e with e; subst e; exact ⟨by show x1.heap.size ≠ d; omega, fun e2 => absurd (hbl.out _ e2) (Nat.lt_irrefl _)⟩) (by simp)); have D5 := Lib.hid (D4.out.grown gr5 (fun g hg => by have := hbd.out g hg; omega)); have b5 : Below w.heap.size w x5 := ((hbx3.trans (b4.mono hbx3.size))).grown gr5 (Nat.le_trans hbx3.size b4.size) (fun g hg => by have := hbd.out g hg; omega); have z5 : w2.heap.size ≤ x5.heap.size := (by have := gr5.size; have := b4.size; omega); clear row5 gr5 or5)
        go_roundw
        case rel => exact ⟨k + 1, fs ++ [true], A5, c5, l ++ [⟨some ⟨x1.heap.size, 0, none⟩, 3, 3, [⟨1, 1, 1 + k, 0, 0⟩, ⟨4, 0, 0, 3 + k, 0⟩, ⟨2, 0, 0, 0, 1⟩]⟩], by omega, rfl, by go_num, M5, Lib.hid (by rw [List.map_append, hfs.out, swT_snoc, hfl.out]; rfl), Lib.hid (by rw [List.length_append, hfl.out]; rfl), D5, b5, z5⟩
        case measure => simp [intOf]; omega
      · skip
        have b4 : Below x3.heap.size x3 (x3.alloc (.cells #[.slice (some ⟨x1.heap.size, 5, none⟩) 2 2] 49)) := (by repeat (first | (with_reducible exact (Below.refl _ _)) | (with_reducible refine Below.drew ?_) | (with_reducible refine below_drewN ?_ _) | (with_reducible refine Below.setCell ?_ ?_ _; rotate_left; (first | omega | (simp <;> omega))) | (with_reducible refine Below.alloc ?_ ?_ _; rotate_left; (first | omega | (simp <;> omega)))))
        have M4 := Lib.hid (M3.out.below b4)
        have D4 := Lib.hid (D3.out.below b4)
        have S4 := Lib.hid ((S3.out.drop1).up b4)
        go_wp2_with (at_builtin; refine wpList_append_row rfl _ _ 26 rfl w2.heap.size 49 i0 _ 1 24 Try.underlying26 hi iz0 iz1 iz2 rfl (by decide) A k c (l.flatMap Th.cells) (by simp [Act.eval]) M4.out.row (some ⟨x3.heap.size, 0, none⟩) 1 1 [.slice (some ⟨x1.heap.size, 5, none⟩) 2 2] (by simp [Act.eval]) (by intro h; cases h) rfl (fun ad h j' u hu => by injection h with h; subst h; rw [Addr.add_lit, cell_new _ _ _ _ _ rfl, Nat.zero_add, ← Array.getElem?_toList]; exact hu) (by simp [Value.oneCell']) (by unfold maxLen; omega) (by omega) (by simp; omega) ?_; intro A5 c5 x5 row5 gr5 or5; have M5 := Lib.hid (M4.out.snoc (t := ⟨some ⟨x1.heap.size, 5, none⟩, 2, 2, [⟨4, 0, 0, 3 + k, 0⟩, ⟨2, 0, 0, 0, 1⟩]⟩) row5 gr5 or5 S4.out (fun _ ad e => by injection e with e; subst e; exact ⟨by show x1.heap.size ≠ d; omega, fun e2 => absurd (hbl.out _ e2) (Nat.lt_irrefl _)⟩) (by simp)); have D5 := Lib.hid (D4.out.grown gr5 (fun g hg => by have := hbd.out g hg; omega)); have b5 : Below w.heap.size w x5 := ((hbx3.trans (b4.mono hbx3.size))).grown gr5 (Nat.le_trans hbx3.size b4.size) (fun g hg => by have := hbd.out g hg; omega); have z5 : w2.heap.size ≤ x5.heap.size := (by have := gr5.size; have := b4.size; omega); clear row5 gr5 or5)
        go_roundw
        case rel => exact ⟨k + 1, fs ++ [false], A5, c5, l ++ [⟨some ⟨x1.heap.size, 5, none⟩, 2, 2, [⟨4, 0, 0, 3 + k, 0⟩, ⟨2, 0, 0, 0, 1⟩]⟩], by omega, rfl, by go_num, M5, Lib.hid (by rw [List.map_append, hfs.out, swT_snoc, hfl.out]; rfl), Lib.hid (by rw [List.length_append, hfl.out]; rfl), D5, b5, z5⟩
        case measure => simp [intOf]; omega
    · have hlt2 : 2 + r ≤ k := by omega
      have hltF : ¬ ((k : Int) < 2 + (r : Int)) := by omega
      have hf3 : fs.length = 2 ∨ fs.length = 3 := by have := hfl.out; omega
      have HVAL := Lib.hid (show validT (l.map Th.s) = true from by rw [hfs.out]; exact sw_valid fs hf3)
      have HF3 := Lib.hid hf3
      have HRO := Lib.hid M1.out.rooms
      have HSM := Lib.hid M1.out.small
      have HTD := Lib.hid (M1.out.out hdl)
      have hn9 : k ≤ 9000000000000 := by omega
      have hn1 : 2 ≤ k ∧ k ≤ 3 := by omega
      clear hf3
      go_wp2_with fail
      refine (mod_any mo 4 x1 (by decide) (by decide) HMO.out).mono ?_
      rintro e x2 ⟨m, hm4, hme, rfl, hx2⟩
      clear hme
      have HTD2 := Lib.hid (HTD.out.up hx2)
      have D2 := Lib.hid (D1.out.below hx2)
      have hbx2 : Below w.heap.size w x2 := hbx1.trans (hx2.mono hbx1.size)
      have hzx2 := hx2.size
      go_upto_region 12 with (first | (go_at_call 11; refine (new_ok A k c l x2 HTD2.out.t hn9 HSM.out HVAL.out).mono ?_; rintro e Y ⟨A1, c1, rfl, hok1, hbY, hl1⟩; have HOK1 := Lib.hid hok1; have HL1 := Lib.hid hl1; clear hok1 hl1; have KZ := Lib.hid (StAt.new Y (fun _ => 0) none 0 0)) | (with_reducible refine wpList_store_st rfl (.tmp 12) (.tmp 49) rfl (mem := mem0) (A := A1) (n := k) (c := c1) (by simp [Act.eval]) (by simp [Act.eval]) KZ.out ?_; intro W1 hst hgr; have HST := Lib.hid hst; have HGR := Lib.hid hgr; clear hst hgr))
      have hbv : Below Y.heap.size Y W1 := below_var HGR.out
      have hzv : Y.heap.size + 1 ≤ W1.heap.size := size_var HGR.out
      have hzY := hbY.size
      have hbwY : Below w.heap.size w Y := hbx2.trans (hbY.mono hbx2.size)
      have hbw1 : Below w.heap.size w W1 := hbwY.trans (hbv.mono hbwY.size)
      have hbx21 : Below x2.heap.size x2 W1 := hbY.trans (hbv.mono hbY.size)
      have HOK := Lib.hid (HOK1.out.up hbv)
      have HOF := Lib.hid (show Off A1 k (List.replicate k tr0) Y.heap.size ∧ Off A1 k (List.replicate k tr0) d from ⟨Off.of_new HL1.out (.inr (Nat.le_refl _)), Off.of_new HL1.out (.inl (by omega))⟩)
      have HTD3 := Lib.hid (HTD2.out.up hbx21)
      have HTB3 := Lib.hid (show ThA W1 Y.heap.size A k l from (ThA.new HTD2.out.t hzY).up hbx21)
      have D3 := Lib.hid (D2.out.below hbx21)
      have hdY : d < Y.heap.size := by omega
      have HSW := Lib.hid (show SwI fs mem0 ((List.replicate k tr0).map Tr.pt) from by rw [pts_new, ← hfl.out]; exact sw_start fs mem0 rfl)
      obtain ⟨b, hb⟩ : ∃ b, b = Y.heap.size := ⟨_, rfl⟩
      rw [← hb] at HST HOF HTB3 hzv hdY ⊢
      clear HGR KZ HL1 HOK1 HTD HTD2 hb
      have HFS := Lib.hid hfs.out
      have HFL := Lib.hid hfl.out
      have hm3I : (m : Int) ≤ 3 := by omega
      go_loopg [13] (left2 (swT fs) ((List.replicate k tr0).map Tr.pt)) (fun gk ev wr => ∃ (mem : Nat → Int) (SA : Option Addr) (qn qc : Nat) (ts : List Tr), ev = .int .i64 0 ∧ Hid (StAt wr b mem SA qn qc) ∧ Hid (Okay wr SA qn qc ts) ∧ Hid (Off SA qn ts b ∧ Off SA qn ts d) ∧ Hid (SwI fs mem (ts.map Tr.pt)) ∧ Hid (ThA wr d A k l) ∧ Hid (ThA wr b A k l) ∧ Hid (Dice wr d) ∧ Hid (left2 (swT fs) (ts.map Tr.pt) ≤ gk) ∧ b + 1 ≤ wr.heap.size ∧ Below w.heap.size w wr)
      case atStart => exact ⟨mem0, A1, k, c1, List.replicate k tr0, rfl, HST, HOK, HOF, HSW, HTD3, HTB3, D3, Lib.hid (Nat.le_refl _), by omega, hbw1⟩
      case round =>
        obtain ⟨mem, SA, qn, qc, ts, rfl, hst, hok, hof, hsw, htd, htb, hdi, hleft, hzr', hbr'⟩ := hrel
        rename World => wq
        have HQ3 := hok.out.n3
        have HVQ := Lib.hid (show okB m (swT fs) (ts.map Tr.pt) = true from by
          have h1 := HVAL.out
          rw [HFS.out] at h1
          unfold okB
          rw [h1, decide_eq_true (show (0 : Int) ≤ m by omega), decide_eq_true (show (m : Int) ≤ 3 by omega), decide_eq_true (by rw [hsw.out.len]; simp [swT])]; rfl)
        go_wp2_with (first | (with_reducible refine wpList_load_st rfl (.tmp 12) rfl (by simp [Act.eval, Act.put]) hst.out ?_))
        refine (ended_any A k c l mem SA qn qc ts wq htd.out.t hn9 HRO.out hok.out.s hok.out.r (by omega) HSM.out).mono ?_
        rintro e y1 ⟨rfl, hy1⟩
        rw [HFS.out]
        have st1 := Lib.hid (hst.out.below hy1 (by omega))
        have ok1 := Lib.hid (hok.out.up hy1)
        have td1 := Lib.hid (htd.out.up hy1)
        have tb1 := Lib.hid (htb.out.up hy1)
        have di1 := Lib.hid (hdi.out.below hy1)
        have by1 : Below w.heap.size w y1 := hbr'.trans (hy1.mono hbr'.size)
        have zy1 := hy1.size
        cases hE : endedP (swT fs) (ts.map Tr.pt) with
        | false =>
          have hmv := has_move HVQ.out (fun x hx => short_of_valid (by have h := HVAL.out; rw [HFS.out] at h; exact h) hx) hE
          have HMV := Lib.hid hmv
          clear hE hmv
          go_wp2_with (first | (with_reducible refine wpList_load_st rfl (.tmp 12) rfl (by simp [Act.eval, Act.put]) st1.out ?_))
          refine (moves_any m A k c l (mem 0) (mem 1) (mem 2) (mem 3) SA qn qc ts y1 td1.out.t hn9 HSM.out HRO.out ok1.out.s ok1.out.r (by omega)).mono ?_
          rintro e y2 ⟨A3, n3, c3, rfl, hn3, hnc3, hc3, hsl3, hy2, hlo3⟩
          rw [HFS.out] at hn3 hsl3
          have hn30 : 0 < n3 := by rw [hn3]; exact List.length_pos_iff.2 HMV.out
          have hn3b : n3 ≤ 4000 := by
            rw [hn3]
            unfold movesP
            split
            · have := mvs_len (m := m) (ths := swT fs) (ts := ts.map Tr.pt) (fun x hx => short_of_valid (by have h := HVAL.out; rw [HFS.out] at h; exact h) hx) (fun y hy => by obtain ⟨x, hx, rfl⟩ := List.mem_map.1 hy; show x.q.length ≤ 1000; rw [(ok1.out.s.q x hx).len]; exact (ok1.out.r x hx).2.2) (swT fs).length
              have h2 : (swT fs).length ≤ 3 := by have := HFL.out; simp [swT]; omega
              omega
            · simp
          have HN3 := Lib.hid hn3
          have HSL3 := Lib.hid hsl3
          have hbl3 := Lib.hid hlo3
          clear hn3 hsl3 hlo3
          have st2 := Lib.hid (st1.out.below hy2 (by omega))
          have ok2 := Lib.hid (ok1.out.up hy2)
          have td2 := Lib.hid (td1.out.up hy2)
          have tb2 := Lib.hid (tb1.out.up hy2)
          have di2 := Lib.hid (di1.out.below hy2)
          have by2 : Below w.heap.size w y2 := by1.trans (hy2.mono by1.size)
          have zy2 := hy2.size
          have hn30' : ((n3 : Int) == 0) = false := by simp; omega
          go_upto_region 16 with fail
          obtain ⟨mb, mo', rfl, hmlt, hmat⟩ := HSL3.out.at_ hn30
          have hmd : mb ≠ d := by have := hbl3.out hn30 _ rfl; simp only at this; omega
          have KM := Lib.hid (show ∀ Y, Thrown y2 d Y → ∀ (i : Nat) (v : Mv), (movesP m (swT fs) (ts.map Tr.pt))[i]? = some v → Y.cell? ⟨mb, mo' + i * 3, none⟩ = some (.int .i64 v.thread) ∧ Y.cell? ⟨mb, mo' + i * 3 + 1, none⟩ = some (.int .i64 v.op) ∧ Y.cell? ⟨mb, mo' + i * 3 + 2, none⟩ = some (.int .i64 v.store) from fun Y hY i v hv =>
            ⟨(hY.cell hmlt hmd).trans (by have := hmat i v hv 0 _ rfl; simpa using this), (hY.cell hmlt hmd).trans (hmat i v hv 1 _ rfl), (hY.cell hmlt hmd).trans (hmat i v hv 2 _ rfl)⟩)
          have KS := Lib.hid (show ∀ Y, StAt Y b mem SA qn qc → (Y.cell? ⟨b, 0, none⟩ = some (.int .i64 (mem 0)) ∧ Y.cell? ⟨b, 1, none⟩ = some (.int .i64 (mem 1)) ∧ Y.cell? ⟨b, 2, none⟩ = some (.int .i64 (mem 2)) ∧ Y.cell? ⟨b, 3, none⟩ = some (.int .i64 (mem 3)) ∧ Y.cell? ⟨b, 4, none⟩ = some (.slice SA qn qc)) ∧ (Y.frozen? ⟨b, 0, none⟩ = false ∧ Y.frozen? ⟨b, 1, none⟩ = false ∧ Y.frozen? ⟨b, 2, none⟩ = false ∧ Y.frozen? ⟨b, 3, none⟩ = false ∧ Y.frozen? ⟨b, 4, none⟩ = false) from fun Y h => ⟨⟨h.m (by decide), h.m (by decide), h.m (by decide), h.m (by decide), h.s⟩, h.fr 0, h.fr 1, h.fr 2, h.fr 3, h.fr 4⟩)
          obtain ⟨⟨q0, q1, q2, q3, q4⟩, _⟩ := KS.out y2 st2.out
          clear hmat
          go_region_law (first
            | (go_simp; go_at_call 16; refine (pick_any d n3 _ (di2.out.below (by repeat (first | (with_reducible exact (Below.refl _ _)) | (with_reducible refine Below.drew ?_) | (with_reducible refine below_drewN ?_ _) | (with_reducible refine Below.setCell ?_ ?_ _; rotate_left; (first | omega | (simp <;> omega))) | (with_reducible refine Below.alloc ?_ ?_ _; rotate_left; (first | omega | (simp <;> omega)))))) hn30 (by omega)).mono ?_; rintro e Y ⟨p, hp, rfl, ht, hz⟩; have hT : Thrown y2 d Y := (Thrown.of_below di2.out (by repeat (first | (with_reducible exact (Below.refl _ _)) | (with_reducible refine Below.drew ?_) | (with_reducible refine below_drewN ?_ _) | (with_reducible refine Below.setCell ?_ ?_ _; rotate_left; (first | omega | (simp <;> omega))) | (with_reducible refine Below.alloc ?_ ?_ _; rotate_left; (first | omega | (simp <;> omega)))))).trans ht; have HTY := Lib.hid hT; obtain ⟨v, hv⟩ : ∃ v, (movesP m (swT fs) (ts.map Tr.pt))[p]? = some v := ⟨_, List.getElem?_eq_getElem (by rw [← HN3.out]; exact hp)⟩; have HV := Lib.hid hv; obtain ⟨v0, v1, v2⟩ := KM.out Y hT p v hv; clear hv ht hT; have hpI : (p : Int) < (n3 : Int) := (by omega); have stY := Lib.hid (st2.out.grown HTY.out.grown (by omega) (by intro e; injection e with e; omega)); obtain ⟨⟨q0', q1', q2', q3', q4'⟩, _⟩ := KS.out Y stY.out; have okY := Lib.hid (ok2.out.put hof.out.2 HTY.out.grown); have tdY := Lib.hid (td2.out.put HTY.out.grown); have tbY := Lib.hid (tb2.out.put2 td2.out HTY.out.grown))
            | (go_simp; go_at_call 15; refine (do_ok m A k c l mem SA qn qc ts v Y tdY.out.t hn9 HSM.out HRO.out okY.out HVAL.out (by rw [HFS.out]; exact List.mem_of_getElem? HV.out)).mono ?_; rintro e Z ⟨A2, n2, c2, ts2, rfl, hok2, hpt2, hbZ, hl1, hl2⟩; have HOK2 := Lib.hid hok2; have HPT2 := Lib.hid hpt2; have HL1 := Lib.hid hl1; have HL2 := Lib.hid hl2; clear hok2 hpt2 hl1 hl2; have stZ := Lib.hid (stY.out.below hbZ (by have := HTY.out.size; omega)); obtain ⟨⟨z0, z1, z2, z3, z4⟩, ⟨f0, f1, f2, f3, f4⟩⟩ := KS.out Z stZ.out; clear q0 q1 q2 q3 q4 q0' q1' q2' q3' q4'))
          all_goals
            go_wp2
            obtain ⟨sf1, sf2⟩ := step_facts (List.mem_of_getElem? HV.out) hsw.out
            rw [← HFS.out, ← HPT2.out] at sf2
            have sf1 := Lib.hid sf1
            have hgk : 1 ≤ gk := by have := hleft.out; rw [HFS.out] at sf2; omega
            have hleft2 := Lib.hid (show left2 (swT fs) (ts2.map Tr.pt) ≤ gk - 1 from by have := hleft.out; rw [HFS.out] at sf2; omega)
            clear sf2
            have hbyY : Below w.heap.size w Y := by2.trans (HTY.out.below hdw by2.size)
            have hbyZ : Below w.heap.size w Z := hbyY.trans (hbZ.mono hbyY.size)
            have zY := HTY.out.size
            have zZ := hbZ.size
            have G5 := Lib.hid (grown_five Z b (.int .i64 ((stepF m (l.map Th.s) mem (ts.map Tr.pt) v).1 0)) (.int .i64 ((stepF m (l.map Th.s) mem (ts.map Tr.pt) v).1 1)) (.int .i64 ((stepF m (l.map Th.s) mem (ts.map Tr.pt) v).1 2)) (.int .i64 ((stepF m (l.map Th.s) mem (ts.map Tr.pt) v).1 3)) (.slice A2 n2 c2))
            have S5 := Lib.hid (stZ.out.five (stepF m (l.map Th.s) mem (ts.map Tr.pt) v).1 A2 n2 c2)
            go_roundg (gk - 1)
            case measure => omega
            case rel => exact ⟨(stepF m (l.map Th.s) mem (ts.map Tr.pt) v).1, A2, n2, c2, ts2, rfl, S5, Lib.hid (HOK2.out.put (Off.of_lows HL1.out HL2.out (by omega)) G5.out), Lib.hid ⟨Off.of_lows HL1.out HL2.out (by omega), Off.of_lows HL1.out HL2.out (by omega)⟩, Lib.hid (by rw [HPT2.out]; have := sf1.out; rw [← HFS.out] at this; exact this), Lib.hid ((tdY.out.up hbZ).put2 ((tbY.out).up hbZ) G5.out), Lib.hid ((tbY.out.up hbZ).put G5.out), Lib.hid ((HTY.out.dice.below hbZ).grown G5.out (fun g hg => by injection hg with hg; omega)), hleft2, by have := G5.out.size; omega, hbyZ.grown G5.out hbyZ.size (fun g hg => by injection hg with hg; omega)⟩
        | true =>
          obtain ⟨W, hW, hm0, hall⟩ := sw_end hsw.out hE (by have := HFL.out; omega)
          have HM0 := Lib.hid hm0
          have HALL := Lib.hid hall
          have HQN := Lib.hid (show qn = fs.length from by have h1 := hsw.out.len; rw [List.length_map, ok1.out.s.sl.len] at h1; exact h1)
          have hqk : qn = k := by rw [HQN.out, HFL.out]
          have hWq : W < qn := by rw [HQN.out]; exact hW
          have HQK := Lib.hid hqk
          clear hE hm0 hall hW hqk
          have hQN : 0 < qn := by omega
          obtain ⟨gb, go, rfl, hglt, hgat⟩ := ok1.out.s.sl.at_ hQN
          have HGAT := Lib.hid hgat
          clear hgat
          have k4 := st1.out.s
          have hmI : mem 0 = 3 + (W : Int) := HM0.out
          go_upto_region 19 with fail
          clear k4
          have HMI := Lib.hid hmI
          clear hmI
          go_loopw [15, 83] (fun wv iv wr => ∃ j : Nat, j ≤ qn ∧ iv = .int .i64 j ∧ Hid (wv = .int .i64 (if W < j then 1 else 0)) ∧ (∃ z : Int, wv = .int .i64 z) ∧ Below y1.heap.size y1 wr) (fun _ iv _ => qn - (intOf iv).toNat)
          case atStart => exact ⟨0, Nat.zero_le _, rfl, Lib.hid rfl, ⟨0, rfl⟩, Below.refl _ _⟩
          case round =>
            obtain ⟨j, hj, rfl, hwon, ⟨z, rfl⟩, hbz⟩ := hrel
            rename World => wz
            have hzz := hbz.size
            have byz : Below w.heap.size w wz := by1.trans (hbz.mono by1.size)
            by_cases hlt3 : j < qn
            · have hlt3I : (j : Int) < (qn : Int) := by omega
              obtain ⟨t, ht⟩ : ∃ t, ts[j]? = some t := ⟨_, List.getElem?_eq_getElem (by rw [ok1.out.s.sl.len]; omega)⟩
              have hpt : (ts.map Tr.pt)[j]? = some t.pt := by rw [List.getElem?_map, ht]; rfl
              obtain ⟨g0, g1⟩ := HALL.out j t.pt hpt
              have g0 : t.regs 0 = if j = W then 1 else 0 := g0
              have g1 : t.regs 1 = 3 + W := g1
              have HTR := Lib.hid (show TrAt wz gb (go + j * 17) t from fun i u hu => (belc hbz hglt).trans (by rw [Nat.add_assoc]; exact HGAT.out j t ht i u hu))
              have st3 := st1.out.below hbz (by omega)
              have s4 := st3.s
              clear ht hpt
              obtain ⟨X, hX⟩ : ∃ X, X = wz.alloc (.cells t.cells.toArray 47) := ⟨_, rfl⟩
              have hbX : Below wz.heap.size wz X := by rw [hX]; exact (by repeat (first | (with_reducible exact (Below.refl _ _)) | (with_reducible refine Below.drew ?_) | (with_reducible refine below_drewN ?_ _) | (with_reducible refine Below.setCell ?_ ?_ _; rotate_left; (first | omega | (simp <;> omega))) | (with_reducible refine Below.alloc ?_ ?_ _; rotate_left; (first | omega | (simp <;> omega)))))
              have c0 : X.cell? ⟨b, 0, none⟩ = some (.int .i64 (3 + W)) := by rw [← HMI.out]; exact (belc hbX (by omega)).trans (st3.m (by decide))
              have r0 : X.cell? ⟨wz.heap.size, 8, none⟩ = some (.int .i64 (t.regs 0)) := by rw [hX, cell_new _ _ _ _ _ rfl]; simpa using tr_reg t (q := 0) (by decide)
              have r1 : X.cell? ⟨wz.heap.size, 9, none⟩ = some (.int .i64 (t.regs 1)) := by rw [hX, cell_new _ _ _ _ _ rfl]; simpa using tr_reg t (q := 1) (by decide)
              rw [g0] at r0
              rw [g1] at r1
              clear st3 g0 g1
              go_upto_region 21 with (first | (with_reducible refine wpList_load_tr rfl (.tmp 86) rfl (by simp [Act.eval]) HTR.out ?_) | (with_reducible refine wpList_store_new rfl (.tmp 17) (.tmp 87) rfl t rfl (by simp [Act.eval]) (by simp [Act.eval]) ?_))
              rw [← hX]
              have HX := Lib.hid hX
              clear hX s4
              have hbzX : Below y1.heap.size y1 X := hbz.trans (hbX.mono hbz.size)
              by_cases hjW : j = W
              · subst hjW
                have hz0 : z = 0 := by have h := hwon.out; rw [if_neg (Nat.lt_irrefl _)] at h; injection h
                subst hz0
                rw [if_pos rfl] at r0
                go_wp2
                go_roundw
                case rel => exact ⟨j + 1, by omega, by go_num, Lib.hid (by rw [if_pos (by omega)]), ⟨_, rfl⟩, hbzX⟩
                case measure => simp [intOf]; omega
              · rw [if_neg hjW] at r0
                by_cases hjl : W < j
                · have hz1 : z = 1 := by have h := hwon.out; rw [if_pos hjl] at h; injection h
                  subst hz1
                  go_wp2
                  go_roundw
                  case rel => exact ⟨j + 1, by omega, by go_num, Lib.hid (by rw [if_pos (by omega)]), ⟨_, rfl⟩, hbzX⟩
                  case measure => simp [intOf]; omega
                · have hz1 : z = 0 := by have h := hwon.out; rw [if_neg hjl] at h; injection h
                  subst hz1
                  go_wp2
                  go_roundw
                  case rel => exact ⟨j + 1, by omega, by go_num, Lib.hid (by rw [if_neg (by omega)]), ⟨_, rfl⟩, hbzX⟩
                  case measure => simp [intOf]; omega
            · have hz1 : z = 1 := by have h := hwon.out; rw [if_pos (by omega)] at h; injection h
              subst hz1
              have hle3 : qn ≤ j := by omega
              go_wp2
              go_ret
              exact ⟨rfl, byz⟩
end Go.Proofs.Ytnomghcieomjmaa
