/- The chapter's example: the walk. -/
import Derived.Test.YtnomghcieomjmaaRn
import Derived.Test.YtnomghcieomjmaaR
import Derived.Test.YtnomghcieomjmaaW
namespace Go.Proofs.Ytnomghcieomjmaa
open Go.RowKit

/-- A new block, read as a list. -/
theorem Sl.fresh {α : Type} {cells : α → List Value} {sz n : Nat} (hsz : ∀ x, (cells x).length = sz) (w : World) (T : TypeId) (l : List α) (arr : Array Value) (ha : arr.toList = l.flatMap cells) (hn : l.length = n) : Sl (w.alloc (.cells arr T)) (w.alloc (.cells arr T)).heap.size sz cells (some ⟨w.heap.size, 0, none⟩) n l := by
  refine ⟨hn, fun h0 => ⟨_, _, rfl, by simp, fun i x hx j u hu => ?_⟩⟩
  rw [cell_new _ _ _ _ _ rfl, Nat.zero_add, ← Array.getElem?_toList, ha]
  exact flat_get hsz l i x hx j u hu
def exL (b : Nat) : List Th := [⟨some ⟨b, 0, none⟩, 2, 2, [⟨1, 0, 1, 0, 0⟩, ⟨2, 1, 0, 0, 0⟩]⟩, ⟨some ⟨b + 1, 0, none⟩, 2, 2, [⟨1, 1, 1, 0, 0⟩, ⟨2, 0, 0, 0, 0⟩]⟩]
theorem exL_s (b : Nat) : (exL b).map Th.s = exT := rfl
/-- The example's run. -/
def GivesEx (w : World) (e : Ending) (w' : World) : Prop := ∃ mem A c t0 t1, e = .returned (.tuple #[stVal mem A 2 c, .int .i64 6, .int .i64 0]) ∧ Okay w' A 2 c [t0, t1] ∧ mem 0 = 1 ∧ t0.regs 0 = 0 ∧ t1.regs 0 = 0 ∧ endedP exT [t0.pt, t1.pt] = true ∧ Below w.heap.size w w'
theorem ex_gives {w w' : World} {e : Ending} (h : GivesRun exR w e w') : GivesEx w e w' := by
  obtain ⟨A, n, c, ts, rfl, hok, hpt, hb⟩ := h
  have hl : ts.length = 2 := by
    have h1 := congrArg List.length hpt
    have h2 := congrArg List.length ex_reg
    simp only [List.length_map] at h1 h2
    rw [h1, h2]; rfl
  have hn : n = 2 := by rw [← hok.s.sl.len, hl]
  subst hn
  match ts, hl with
  | [t0, t1], _ =>
    have hr := ex_reg
    rw [← hpt] at hr
    simp only [List.map_cons, List.map_nil] at hr
    injection hr with h0 hr
    injection hr with h1 _
    refine ⟨exR.1.1, A, c, t0, t1, ?_, hok, ex_mem, h0, h1, ?_, hb⟩
    · rw [ex_n]; rfl
    · have := ex_end
      rw [← hpt] at this
      exact this

theorem exb_gives {w w' : World} {e : Ending} (h : GivesRun (runF 0 exT mem0 (List.replicate 2 pt0) [⟨0, 1, 0⟩]) w e w') : ∃ A n c, e = .returned (.tuple #[stVal mem0 A n c, .int .i64 0, .int .i64 7]) ∧ Below w.heap.size w w' := by
  obtain ⟨A, n, c, ts, rfl, _, _, hb⟩ := h
  have h := ex_bad
  exact ⟨A, n, c, by rw [show runF 0 exT mem0 (List.replicate 2 pt0) [⟨0, 1, 0⟩] = _ from h]; rfl, hb⟩
/-- A variable made anew, and stored into. -/
theorem below_var {Y W : World} {c : Array Value} {T : TypeId} (hg : (Y.alloc (.cells c T)).grownBy W (some Y.heap.size)) : Below Y.heap.size Y W :=
  (show Below Y.heap.size Y (Y.alloc (.cells c T)) from (by repeat (first | (with_reducible exact (Below.refl _ _)) | (with_reducible refine Below.drew ?_) | (with_reducible refine below_drewN ?_ _) | (with_reducible refine Below.setCell ?_ ?_ _; rotate_left; (first | omega | (simp <;> omega))) | (with_reducible refine Below.alloc ?_ ?_ _; rotate_left; (first | omega | (simp <;> omega)))))).grown hg (by simp) (fun k e => by cases e; exact Nat.le_refl _)
theorem size_var {Y W : World} {c : Array Value} {T : TypeId} (hg : (Y.alloc (.cells c T)).grownBy W (some Y.heap.size)) : Y.heap.size + 1 ≤ W.heap.size := by have := hg.size; simpa using this

set_option maxRecDepth 100000 in
set_option maxHeartbeats 4000000 in
theorem sane_any (w : World) : Calls Try.prog 8 #[] w fun e w' => e = .returned (.bool true) ∧ Below w.heap.size w w' := by
  obtain ⟨V1, hV1⟩ : ∃ V1, V1 = w.alloc (.cells #[.int .i64 1, .int .i64 0, .int .i64 1, .int .i64 0, .int .i64 0, .int .i64 2, .int .i64 1, .int .i64 0, .int .i64 0, .int .i64 0] 51) := ⟨_, rfl⟩
  obtain ⟨V2, hV2⟩ : ∃ V2, V2 = V1.alloc (.cells #[.int .i64 1, .int .i64 1, .int .i64 1, .int .i64 0, .int .i64 0, .int .i64 2, .int .i64 0, .int .i64 0, .int .i64 0, .int .i64 0] 51) := ⟨_, rfl⟩
  obtain ⟨W1, hW1⟩ : ∃ W1, W1 = V2.alloc (.cells #[.slice (some ⟨w.heap.size, 0, none⟩) 2 2, .slice (some ⟨w.heap.size + 1, 0, none⟩) 2 2] 49) := ⟨_, rfl⟩
  have hy1 : V1.heap.size = w.heap.size + 1 := by rw [hV1]; simp
  have hy2 : V2.heap.size = w.heap.size + 1 + 1 := by rw [hV2]; simp [hy1]
  have hz1 : W1.heap.size = w.heap.size + 3 := by rw [hW1]; simp [hy2]
  have hbv1 : Below w.heap.size w V1 := by rw [hV1]; exact (by repeat (first | (with_reducible exact (Below.refl _ _)) | (with_reducible refine Below.drew ?_) | (with_reducible refine below_drewN ?_ _) | (with_reducible refine Below.setCell ?_ ?_ _; rotate_left; (first | omega | (simp <;> omega))) | (with_reducible refine Below.alloc ?_ ?_ _; rotate_left; (first | omega | (simp <;> omega)))))
  have hbv2 : Below V1.heap.size V1 V2 := by rw [hV2]; exact (by repeat (first | (with_reducible exact (Below.refl _ _)) | (with_reducible refine Below.drew ?_) | (with_reducible refine below_drewN ?_ _) | (with_reducible refine Below.setCell ?_ ?_ _; rotate_left; (first | omega | (simp <;> omega))) | (with_reducible refine Below.alloc ?_ ?_ _; rotate_left; (first | omega | (simp <;> omega)))))
  have hbv3 : Below V2.heap.size V2 W1 := by rw [hW1]; exact (by repeat (first | (with_reducible exact (Below.refl _ _)) | (with_reducible refine Below.drew ?_) | (with_reducible refine below_drewN ?_ _) | (with_reducible refine Below.setCell ?_ ?_ _; rotate_left; (first | omega | (simp <;> omega))) | (with_reducible refine Below.alloc ?_ ?_ _; rotate_left; (first | omega | (simp <;> omega)))))
  have hb1 : Below w.heap.size w W1 := (hbv1.trans (hbv2.mono hbv1.size)).trans (hbv3.mono (by omega))
  have s1 : Sl V1 V1.heap.size 5 POp.cells (some ⟨w.heap.size, 0, none⟩) 2 [⟨1, 0, 1, 0, 0⟩, ⟨2, 1, 0, 0, 0⟩] := by rw [hV1]; exact Sl.fresh POp.size w _ _ _ rfl rfl
  have s2 : Sl V2 V2.heap.size 5 POp.cells (some ⟨w.heap.size + 1, 0, none⟩) 2 [⟨1, 1, 1, 0, 0⟩, ⟨2, 0, 0, 0, 0⟩] := by rw [hV2, ← hy1]; exact Sl.fresh POp.size V1 _ _ _ rfl rfl
  have s3 : Sl W1 W1.heap.size 1 Th.cells (some ⟨w.heap.size + 1 + 1, 0, none⟩) 2 (exL w.heap.size) := by rw [hW1, ← hy2]; exact Sl.fresh Th.size V2 _ _ _ rfl rfl
  have HT := Lib.hid (show Ths W1 W1.heap.size (some ⟨w.heap.size + 1 + 1, 0, none⟩) 2 (exL w.heap.size) from ⟨s3, fun t ht => by
    simp only [exL, List.mem_cons, List.mem_nil_iff, or_false] at ht
    rcases ht with rfl | rfl
    · exact (s1.up hbv2).up hbv3
    · exact s2.up hbv3⟩)
  rw [hV2, hV1] at hW1
  clear s1 s2 s3 hV1 hV2 hbv1 hbv2 hbv3 hy1 hy2 V1 V2
  have HVAL := Lib.hid (show validT ((exL w.heap.size).map Th.s) = true from ex_valid)
  have HRO := Lib.hid (show Rooms (exL w.heap.size) from fun t ht => by
    simp only [exL, List.mem_cons, List.mem_nil_iff, or_false] at ht
    rcases ht with rfl | rfl <;> simp)
  have HM := Lib.hid (show ∀ t ∈ exL w.heap.size, t.n ≤ 9000000000000 from fun t ht => by
    simp only [exL, List.mem_cons, List.mem_nil_iff, or_false] at ht
    rcases ht with rfl | rfl <;> simp)
  obtain ⟨W2, hW2⟩ : ∃ W2, W2 = W1.alloc (.cells #[.int .i64 0, .int .i64 0, .int .i64 0, .int .i64 0, .int .i64 1, .int .i64 0, .int .i64 1, .int .i64 0, .int .i64 0, .int .i64 1, .int .i64 1, .int .i64 0, .int .i64 0, .int .i64 (-1), .int .i64 0, .int .i64 1, .int .i64 (-1), .int .i64 0] 41) := ⟨_, rfl⟩
  have hb2 : Below W1.heap.size W1 W2 := by rw [hW2]; exact (by repeat (first | (with_reducible exact (Below.refl _ _)) | (with_reducible refine Below.drew ?_) | (with_reducible refine below_drewN ?_ _) | (with_reducible refine Below.setCell ?_ ?_ _; rotate_left; (first | omega | (simp <;> omega))) | (with_reducible refine Below.alloc ?_ ?_ _; rotate_left; (first | omega | (simp <;> omega)))))
  have HMS := Lib.hid (show Sl W2 W2.heap.size 3 Mv.cells (some ⟨W1.heap.size, 0, none⟩) 6 exM from by rw [hW2]; exact Sl.fresh Mv.size W1 _ exM _ rfl rfl)
  have hbw2 : Below w.heap.size w W2 := hb1.trans (hb2.mono hb1.size)
  have hz2 := hb2.size
  have HZ1 := Lib.hid hz1
  have hz1' : w.heap.size + 3 ≤ W1.heap.size := by omega
  clear hz1
  go_enter Try.func8, Try.ntmps8
  go_upto_region 2 with fail
  rw [← hW1]
  have HW1 := Lib.hid hW1
  clear hW1
  go_upto_region 3 with (first | (go_at_call 27; rw [← hW2]; refine (run_any 1 (some ⟨w.heap.size + 1 + 1, 0, none⟩) 2 2 (exL w.heap.size) (some ⟨W1.heap.size, 0, none⟩) 6 6 exM W2 (HT.out.up hb2) (by decide) HM.out HRO.out HVAL.out HMS.out (by decide)).mono ?_; intro e Y hY; obtain ⟨mem, A1, c1, t0, t1, rfl, hok1, hm1, hr0, hr1, hen, hbY⟩ := ex_gives hY; have HOK1 := Lib.hid hok1; have HM1 := Lib.hid hm1; have HR0 := Lib.hid hr0; have HR1 := Lib.hid hr1; have HEN := Lib.hid hen; clear hY hok1 hm1 hr0 hr1 hen; have KZ := Lib.hid (StAt.new Y (fun _ => 0) none 0 0)) | (with_reducible refine wpList_store_st rfl (.tmp 2) (.tmp 25) rfl (mem := mem) (A := A1) (n := 2) (c := c1) (by simp [Act.eval]) (by simp [Act.eval]) KZ.out ?_; intro W3 hst hgr; have HST := Lib.hid hst; have HGR := Lib.hid hgr; clear hst hgr))
  have hb3 : Below Y.heap.size Y W3 := below_var HGR.out
  have hz3 : Y.heap.size + 1 ≤ W3.heap.size := size_var HGR.out
  have hbwY : Below w.heap.size w Y := hbw2.trans (hbY.mono hbw2.size)
  have hbw3 : Below w.heap.size w W3 := hbwY.trans (hb3.mono hbwY.size)
  have hb13 : Below W1.heap.size W1 W3 := (hb2.trans (hbY.mono hb2.size)).trans (hb3.mono (by have := hbY.size; omega))
  have HOK3 := Lib.hid (HOK1.out.up hb3)
  obtain ⟨W4, hW4⟩ : ∃ W4, W4 = W3.alloc (.cells #[.int .i64 0, .int .i64 1, .int .i64 0] 41) := ⟨_, rfl⟩
  have hb4 : Below W3.heap.size W3 W4 := by rw [hW4]; exact (by repeat (first | (with_reducible exact (Below.refl _ _)) | (with_reducible refine Below.drew ?_) | (with_reducible refine below_drewN ?_ _) | (with_reducible refine Below.setCell ?_ ?_ _; rotate_left; (first | omega | (simp <;> omega))) | (with_reducible refine Below.alloc ?_ ?_ _; rotate_left; (first | omega | (simp <;> omega)))))
  have HMS2 := Lib.hid (show Sl W4 W4.heap.size 3 Mv.cells (some ⟨W3.heap.size, 0, none⟩) 1 [⟨0, 1, 0⟩] from by rw [hW4]; exact Sl.fresh Mv.size W3 _ _ _ rfl rfl)
  have hb14 : Below W1.heap.size W1 W4 := hb13.trans (hb4.mono hb13.size)
  clear HGR KZ hW2
  go_upto_region 4 with (first | (go_at_call 27; rw [← hW4]; refine (run_any 0 (some ⟨w.heap.size + 1 + 1, 0, none⟩) 2 2 (exL w.heap.size) (some ⟨W3.heap.size, 0, none⟩) 1 1 [⟨0, 1, 0⟩] W4 (HT.out.up hb14) (by decide) HM.out HRO.out HVAL.out HMS2.out (by decide)).mono ?_; intro e Z hZ; obtain ⟨A2, n2, c2, rfl, hbZ⟩ := exb_gives hZ; clear hZ; have KZ := Lib.hid (StAt.new Z (fun _ => 0) none 0 0)) | (with_reducible refine wpList_store_st rfl (.tmp 5) (.tmp 33) rfl (mem := mem0) (A := A2) (n := n2) (c := c2) (by simp [Act.eval]) (by simp [Act.eval]) KZ.out ?_; intro W5 hst2 hgr2; have HGR2 := Lib.hid hgr2; clear hst2 hgr2))
  have hb5 : Below Z.heap.size Z W5 := below_var HGR2.out
  have hb35 : Below W3.heap.size W3 W5 := (hb4.trans (hbZ.mono hb4.size)).trans (hb5.mono (by have := hbZ.size; have := hb4.size; omega))
  have hb15 : Below W1.heap.size W1 W5 := hb13.trans (hb35.mono hb13.size)
  have hbw5 : Below w.heap.size w W5 := hbw3.trans (hb35.mono hbw3.size)
  have HOK5 := Lib.hid (HOK3.out.up hb35)
  have HST5 := Lib.hid (HST.out.below hb35 (by omega))
  have hz5 := hb35.size
  clear HGR2 KZ hW4
  have KS := Lib.hid (show ∀ w', Below W5.heap.size W5 w' → (w'.cell? ⟨Y.heap.size, 0, none⟩ = some (.int .i64 (mem 0)) ∧ w'.cell? ⟨Y.heap.size, 1, none⟩ = some (.int .i64 (mem 1)) ∧ w'.cell? ⟨Y.heap.size, 2, none⟩ = some (.int .i64 (mem 2)) ∧ w'.cell? ⟨Y.heap.size, 3, none⟩ = some (.int .i64 (mem 3)) ∧ w'.cell? ⟨Y.heap.size, 4, none⟩ = some (.slice A1 2 c1)) from fun w' hb => by
    have h := HST5.out.below hb (by omega)
    exact ⟨h.m (i := 0) (by decide), h.m (i := 1) (by decide), h.m (i := 2) (by decide), h.m (i := 3) (by decide), h.s⟩)
  obtain ⟨gb, go, hA1, hglt, hgat⟩ := HOK5.out.s.sl.at_ (by decide)
  subst hA1
  have KT := Lib.hid (show ∀ w', Below W5.heap.size W5 w' → (w'.cell? ⟨gb, go + 8, none⟩ = some (.int .i64 0) ∧ w'.cell? ⟨gb, go + 17 + 8, none⟩ = some (.int .i64 0)) from fun w' hb => by
    have h0 := hgat 0 t0 rfl 8 _ (tr_reg t0 (q := 0) (by decide))
    have h1 := hgat 1 t1 rfl 8 _ (tr_reg t1 (q := 0) (by decide))
    rw [HR0.out] at h0
    rw [HR1.out] at h1
    exact ⟨(belc hb hglt).trans (by simpa using h0), (belc hb hglt).trans (by simpa [Nat.add_assoc] using h1)⟩)
  clear hgat
  obtain ⟨k0, k1, k2, k3, k4⟩ := KS.out W5 (Below.refl _ _)
  have hm1 : (mem 0 == 1) = true := by rw [HM1.out]; rfl
  go_wp2_with fail
  refine (ended_any _ 2 2 (exL w.heap.size) mem _ 2 c1 [t0, t1] W5 (HT.out.up hb15) (by decide) HRO.out HOK5.out.s HOK5.out.r (by decide) HM.out).mono ?_
  rintro e V ⟨rfl, hbV⟩
  rw [show endedP (List.map Th.s (exL w.heap.size)) (List.map Tr.pt [t0, t1]) = true from HEN.out]
  obtain ⟨q0, q1, q2, q3, q4⟩ := KS.out V hbV
  obtain ⟨p0, p1⟩ := KT.out V hbV
  clear k0 k1 k2 k3 k4
  go_wp2
  go_ret
  exact ⟨rfl, hbw5.trans (hbV.mono hbw5.size)⟩
end Go.Proofs.Ytnomghcieomjmaa
