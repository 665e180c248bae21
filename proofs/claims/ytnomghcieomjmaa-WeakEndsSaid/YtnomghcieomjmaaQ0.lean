/- A move is made: the walk, arm 0. -/
import Derived.Test.YtnomghcieomjmaaQH
import Derived.Deep.DeepCutAuto
import Derived.Deep.CutBlock
import Derived.Deep.LoopGhost
namespace Go.Proofs.Ytnomghcieomjmaa
open Go.RowKit
attribute [local go_sem ↓] exec17

set_option maxRecDepth 100000 in
set_option maxHeartbeats 40000000 in
theorem do_arm0 (m : Int) (A : Option Addr) (n c : Nat) (l : List Th) (mem : Nat → Int) (SA : Option Addr) (sn sc : Nat) (ts : List Tr) (v : Mv) (w : World)
    (hT : Ths w w.heap.size A n l) (hn : n ≤ 9000000000000) (hm : ∀ t ∈ l, t.n ≤ 9000000000000) (hro : Rooms l) (hS : Sts w w.heap.size SA sn ts) (hrs : Roomy ts) (hsn : sn ≤ 1000) (hww : Words ts) (hqb : ∀ t ∈ ts, t.n ≤ 900) (harm : armOf m (l.map Th.s) (ts.map Tr.pt) v = 0) :
    Calls Try.prog 15 #[.int .i64 m, .slice A n c, stVal mem SA sn sc, .agg #[.int .i64 v.thread, .int .i64 v.op, .int .i64 v.store]] w (GivesDo m (l.map Th.s) mem (ts.map Tr.pt) v w) := by
  have HT := Lib.hid hT
  have HS := Lib.hid hS
  have HLT := Lib.hid hT.sl.len
  have HLS := Lib.hid hS.sl.len
  have HRO := Lib.hid hro
  have HRS := Lib.hid hrs
  have HWW := Lib.hid hww
  have HQB := Lib.hid hqb
  have HARM := Lib.hid harm
  clear hT hS hro hrs hww hqb harm
  obtain ⟨W0, hW0⟩ : ∃ W0, W0 = ((w.alloc (.cells #[.int .i64 (mem 0), .int .i64 (mem 1), .int .i64 (mem 2), .int .i64 (mem 3), .slice SA sn sc] 31)).alloc (.cells #[.int .i64 v.thread, .int .i64 v.op, .int .i64 v.store] 41)).alloc (.cells #[.int .i64 0, .int .i64 0, .int .i64 0, .int .i64 0, .slice none 0 0] 31) := ⟨_, rfl⟩
  have hb0 : Below w.heap.size w W0 := by rw [hW0]; exact (by repeat (first | (with_reducible exact (Below.refl _ _)) | (with_reducible refine Below.drew ?_) | (with_reducible refine below_drewN ?_ _) | (with_reducible refine Below.setCell ?_ ?_ _; rotate_left; (first | omega | (simp <;> omega))) | (with_reducible refine Below.alloc ?_ ?_ _; rotate_left; (first | omega | (simp <;> omega)))))
  have hz0 : w.heap.size + 3 ≤ W0.heap.size := by rw [hW0]; simp
  have K1 := Lib.hid (show StAt W0 w.heap.size mem SA sn sc from by rw [hW0]; exact (StAt.new w mem SA sn sc).below (by repeat (first | (with_reducible exact (Below.refl _ _)) | (with_reducible refine Below.drew ?_) | (with_reducible refine below_drewN ?_ _) | (with_reducible refine Below.setCell ?_ ?_ _; rotate_left; (first | omega | (simp <;> omega))) | (with_reducible refine Below.alloc ?_ ?_ _; rotate_left; (first | omega | (simp <;> omega))))) (by simp))
  have K2 := Lib.hid (show StAt W0 (w.heap.size + 2) (fun _ => 0) none 0 0 from by
    rw [hW0]
    have := StAt.new ((w.alloc (.cells #[.int .i64 (mem 0), .int .i64 (mem 1), .int .i64 (mem 2), .int .i64 (mem 3), .slice SA sn sc] 31)).alloc (.cells #[.int .i64 v.thread, .int .i64 v.op, .int .i64 v.store] 41)) (fun _ => 0) none 0 0
    rwa [World.size_alloc, World.size_alloc] at this)
  have KV := Lib.hid (show ∀ w', Below W0.heap.size W0 w' → w'.cell? ⟨w.heap.size + 1, 0, none⟩ = some (.int .i64 v.thread) ∧ w'.cell? ⟨w.heap.size + 1, 1, none⟩ = some (.int .i64 v.op) ∧ w'.cell? ⟨w.heap.size + 1, 2, none⟩ = some (.int .i64 v.store) from fun w' hb => ⟨(belc hb (by omega)).trans (by rw [hW0, cell_old _ _ _ _ (by simp <;> omega), cell_new _ _ _ _ _ (by simp <;> omega)]; rfl), (belc hb (by omega)).trans (by rw [hW0, cell_old _ _ _ _ (by simp <;> omega), cell_new _ _ _ _ _ (by simp <;> omega)]; rfl), (belc hb (by omega)).trans (by rw [hW0, cell_old _ _ _ _ (by simp <;> omega), cell_new _ _ _ _ _ (by simp <;> omega)]; rfl)⟩)
  go_enter Try.func15, Try.ntmps15
  go_upto_region 1 with fail
  rw [← hW0]
  have HW0 := Lib.hid hW0
  clear hW0
  cases hval : validT (l.map Th.s) with
  | false => exact absurd HARM.out (by rw [armOf_bad hval]; decide)
  | true =>
    have HVAL := Lib.hid hval
    clear hval
    have hsh := few_of_valid HVAL.out
    rw [List.length_map, HLT.out] at hsh
    have HMV := Lib.hid (show (movesP m (l.map Th.s) (ts.map Tr.pt)).length ≤ 4000 from by
      unfold movesP
      split
      · have := mvs_len (m := m) (ths := l.map Th.s) (ts := ts.map Tr.pt) (fun y hy => short_of_valid HVAL.out hy) (fun y hy => by obtain ⟨x, hx, rfl⟩ := List.mem_map.1 hy; show x.q.length ≤ 1000; rw [(HS.out.q x hx).len]; exact (HRS.out x hx).2.2) (l.map Th.s).length
        rw [List.length_map, HLT.out] at this ⊢
        omega
      · simp)
    go_upto_region 3 with (first | (go_at_call 20; refine (valid_any A n c l W0 (HT.out.up hb0) hn hm).mono ?_; rintro e W1 ⟨rfl, hb1⟩; rw [HVAL.out]))
    have hz1 := hb1.size
    have hbw1 : Below w.heap.size w W1 := hb0.trans (hb1.mono hb0.size)
    have KS := Lib.hid (show ∀ w', Below W1.heap.size W1 w' → (fun w' : World => (w'.cell? ⟨w.heap.size, 0, none⟩ = some (.int .i64 (mem 0)) ∧ w'.cell? ⟨w.heap.size, 1, none⟩ = some (.int .i64 (mem 1)) ∧ w'.cell? ⟨w.heap.size, 2, none⟩ = some (.int .i64 (mem 2)) ∧ w'.cell? ⟨w.heap.size, 3, none⟩ = some (.int .i64 (mem 3)) ∧ w'.cell? ⟨w.heap.size, 4, none⟩ = some (.slice SA sn sc)) ∧ (w'.cell? ⟨w.heap.size + 1, 0, none⟩ = some (.int .i64 v.thread) ∧ w'.cell? ⟨w.heap.size + 1, 1, none⟩ = some (.int .i64 v.op) ∧ w'.cell? ⟨w.heap.size + 1, 2, none⟩ = some (.int .i64 v.store))) w' from fun w' hb => by
      have hb' := hb1.trans (hb.mono hz1)
      have h := K1.out.below hb' (by omega)
      exact ⟨⟨h.m (by omega), h.m (by omega), h.m (by omega), h.m (by omega), h.s⟩, KV.out w' hb'⟩)
    go_cut [23] (fun s23 wx => s23 = .bool (!decide (v ∈ movesP m (l.map Th.s) (ts.map Tr.pt))) ∧ Below W1.heap.size W1 wx)
    case first =>
      go_region_held3 (fun w' : World => (w'.cell? ⟨w.heap.size, 0, none⟩ = some (.int .i64 (mem 0)) ∧ w'.cell? ⟨w.heap.size, 1, none⟩ = some (.int .i64 (mem 1)) ∧ w'.cell? ⟨w.heap.size, 2, none⟩ = some (.int .i64 (mem 2)) ∧ w'.cell? ⟨w.heap.size, 3, none⟩ = some (.int .i64 (mem 3)) ∧ w'.cell? ⟨w.heap.size, 4, none⟩ = some (.slice SA sn sc)) ∧ (w'.cell? ⟨w.heap.size + 1, 0, none⟩ = some (.int .i64 v.thread) ∧ w'.cell? ⟨w.heap.size + 1, 1, none⟩ = some (.int .i64 v.op) ∧ w'.cell? ⟨w.heap.size + 1, 2, none⟩ = some (.int .i64 v.store)))
        (first | (refine KS.out _ ?_; (repeat (first | (with_reducible exact Below.refl _ _) | (with_reducible exact hZ) | (with_reducible exact hY) | (with_reducible refine Below.drew ?_))); done))
        (first | (go_at_call 13; refine (moves_any m A n c l (mem 0) (mem 1) (mem 2) (mem 3) SA sn sc ts _ ((HT.out.up hbw1).up (by repeat (first | (with_reducible exact (Below.refl _ _)) | (with_reducible refine Below.drew ?_) | (with_reducible refine below_drewN ?_ _) | (with_reducible refine Below.setCell ?_ ?_ _; rotate_left; (first | omega | (simp <;> omega))) | (with_reducible refine Below.alloc ?_ ?_ _; rotate_left; (first | omega | (simp <;> omega)))))) hn hm HRO.out ((HS.out.up hbw1).up (by repeat (first | (with_reducible exact (Below.refl _ _)) | (with_reducible refine Below.drew ?_) | (with_reducible refine below_drewN ?_ _) | (with_reducible refine Below.setCell ?_ ?_ _; rotate_left; (first | omega | (simp <;> omega))) | (with_reducible refine Below.alloc ?_ ?_ _; rotate_left; (first | omega | (simp <;> omega)))))) HRS.out (by omega)).mono ?_; rintro e Y ⟨A2, n2, c2, rfl, hn2, hnc2, hc2, hsl2, hY, _⟩; have HSL2 := Lib.hid hsl2; have HN2 := Lib.hid hn2; clear hsl2 hn2; have hY : Below W1.heap.size W1 Y := Below.trans (by repeat (first | (with_reducible exact (Below.refl _ _)) | (with_reducible refine Below.drew ?_) | (with_reducible refine below_drewN ?_ _) | (with_reducible refine Below.setCell ?_ ?_ _; rotate_left; (first | omega | (simp <;> omega))) | (with_reducible refine Below.alloc ?_ ?_ _; rotate_left; (first | omega | (simp <;> omega))))) (hY.mono (by simp))) | (go_at_call 34; refine (containsMv_any A2 n2 c2 (movesP m (l.map Th.s) (ts.map Tr.pt)) v _ (Sl.up HSL2.out (by repeat (first | (with_reducible exact (Below.refl _ _)) | (with_reducible refine Below.drew ?_) | (with_reducible refine below_drewN ?_ _) | (with_reducible refine Below.setCell ?_ ?_ _; rotate_left; (first | omega | (simp <;> omega))) | (with_reducible refine Below.alloc ?_ ?_ _; rotate_left; (first | omega | (simp <;> omega)))))) (by have := HN2.out; have := HMV.out; omega)).mono ?_; rintro e Z ⟨rfl, hZ⟩; have hZ : Below W1.heap.size W1 Z := hY.trans (Below.mono (Below.trans (by repeat (first | (with_reducible exact (Below.refl _ _)) | (with_reducible refine Below.drew ?_) | (with_reducible refine below_drewN ?_ _) | (with_reducible refine Below.setCell ?_ ?_ _; rotate_left; (first | omega | (simp <;> omega))) | (with_reducible refine Below.alloc ?_ ?_ _; rotate_left; (first | omega | (simp <;> omega))))) hZ) hY.size)))
      all_goals
        go_wp2
        go_meet
        exact ⟨rfl, hZ⟩
    case rest =>
      obtain ⟨rfl, hbx⟩ := hcut
      rename World => wx
      have hzx := hbx.size
      have hbwx : Below w.heap.size w wx := hbw1.trans (hbx.mono hbw1.size)
      have hb0x : Below W0.heap.size W0 wx := hb1.trans (hbx.mono hz1)
      cases hin : decide (v ∈ movesP m (l.map Th.s) (ts.map Tr.pt)) with
      | false => exact absurd HARM.out (by rw [armOf_out (of_decide_eq_false hin)]; decide)
      | true =>
        have HIN := Lib.hid (of_decide_eq_true hin)
        clear hin
        have hsnn := Lib.hid (show sn = n from by
          have h := (mem_moves.1 HIN.out).1
          unfold okB at h
          simp only [Bool.and_eq_true, decide_eq_true_eq, List.length_map] at h
          rw [← HLS.out, ← HLT.out]
          exact h.2)
        have hsn1 : 1 ≤ sn := by rw [hsnn.out]; exact hsh.1
        have K1x := Lib.hid (K1.out.below hb0x (by omega))
        go_upto_region 6 with (first | (with_reducible refine wpList_load_st rfl (.tmp 6) rfl (by simp [Act.eval, Act.put]) K1x.out ?_) | (go_at_call 35; refine (copied_any mem SA sn sc ts wx (HS.out.up hbwx) HRS.out hsn1 hsn).mono ?_; rintro e wy ⟨g, c1, ts2, rfl, hown2, hpt2, hlen2, hby, hnc2, hcc2⟩; have HOWN2 := Lib.hid hown2; have HPT2 := Lib.hid hpt2; have HLEN2 := Lib.hid hlen2; clear hown2 hpt2 hlen2; have K1y := Lib.hid (K1x.out.below hby (by omega))) | (with_reducible refine wpList_store_st rfl (.tmp 6) (.tmp 26) rfl (mem := mem) (A := some ⟨g, 0, none⟩) (n := ts2.length) (c := c1) (by simp [Act.eval]) (by simp [Act.eval]) K1y.out ?_; intro wz hst hgr; have HSTZ := Lib.hid hst; have HGRZ := Lib.hid hgr; clear hst hgr))
        have hzy := hby.size
        have D1 := Lib.hid (show DoAt w wz mem g ts2.length c1 ts2 v from by
          have hb0y : Below W0.heap.size W0 wy := hb0x.trans (hby.mono hb0x.size)
          have hz := HGRZ.out.size
          have k2 := (K2.out.below hb0y (by omega)).grown HGRZ.out (by omega) (by intro e; injection e with e; omega)
          obtain ⟨v0, v1, v2⟩ := KV.out wy hb0y
          have hg := (gcell HGRZ.out).1
          refine ⟨HSTZ.out, k2, (hg _ _ (by omega) (by intro e; injection e with e; omega)).trans v0, (hg _ _ (by omega) (by intro e; injection e with e; omega)).trans v1, (hg _ _ (by omega) (by intro e; injection e with e; omega)).trans v2, (HOWN2.out.base (by omega)).grownLow HGRZ.out (by omega), (hbwx.trans (hby.mono hbwx.size)).grown HGRZ.out (by omega) (fun j e => by cases e; omega), by omega⟩)
        have h2z : w.heap.size + 3 ≤ wz.heap.size := D1.out.sz
        have HR2 := Lib.hid (show ∀ t ∈ ts2, t.n ≤ t.c ∧ t.c ≤ 9223372036854775807 ∧ t.n ≤ 900 from fun t ht => by
          have ho := HOWN2.out.own t ht
          obtain ⟨i, hi⟩ := List.getElem?_of_mem ht
          have h1 : (ts.map Tr.pt)[i]? = some t.pt := by rw [← HPT2.out, List.getElem?_map, hi]; rfl
          rw [List.getElem?_map] at h1
          obtain ⟨t0, ht0, hp0⟩ := Option.map_eq_some_iff.1 h1
          have hq0 : t0.q = t.q := congrArg Pt.q hp0
          refine ⟨(own_room ho).1, own_cap ho, ?_⟩
          rw [← HLEN2.out t ht, ← hq0, (HS.out.q t0 (List.mem_of_getElem? ht0)).len]
          exact HQB.out t0 (List.mem_of_getElem? ht0))
        have hmv := mem_moves.1 HIN.out
        obtain ⟨hok, k, lk, tk, hlk, htk, ⟨i, o, ho, hcan, hve⟩ | ⟨i, x, hx, harr, hve⟩⟩ := hmv
        · obtain ⟨u, hu, rfl⟩ := D1.out.own.pts HPT2.out htk
          subst hve
          have hun := HLEN2.out u (List.mem_of_getElem? hu)
          have hkl : k < ts2.length := (List.getElem?_eq_some_iff.1 hu).1
          have hfo := formed_of_valid HVAL.out hlk ho
          have hwo := word_of_formed hfo
          have hro := reg_of_formed hfo
          have hi8 : i < 8 := Nat.lt_of_lt_of_le (List.getElem?_eq_some_iff.1 ho).1 (short_of_valid HVAL.out (List.mem_of_getElem? hlk))
          have hlk0 := hlk
          rw [List.getElem?_map] at hlk0
          obtain ⟨x, hx, hxs⟩ := Option.map_eq_some_iff.1 hlk0
          have hkn : k < n := by rw [← HLT.out]; exact (List.getElem?_eq_some_iff.1 hx).1
          obtain ⟨ab, ao, rfl, halt, hat⟩ := HT.out.sl.at_ (by omega)
          obtain ⟨xA, xn, xc, xs⟩ := x
          simp only at hxs
          subst hxs
          have HXS := HT.out.ths _ (List.mem_of_getElem? hx)
          simp only at HXS
          have hixn : i < xn := by rw [← HXS.len]; exact (List.getElem?_eq_some_iff.1 ho).1
          obtain ⟨lb, lo, rfl, hllt, hlat⟩ := HXS.at_ (by omega)
          obtain ⟨kd, wo, on, om, ro⟩ := o
          have HOPA : Hid (opArm m kd = 0) := Lib.hid (by have h := HARM.out; rw [armOf_in HVAL.out HIN.out, subArm_op hlk ho] at h; exact h)
          simp only at hwo hro
          obtain ⟨wd, rfl⟩ : ∃ wd : Nat, wo = wd := ⟨wo.toNat, by omega⟩
          obtain ⟨rg, rfl⟩ : ∃ rg : Nat, ro = rg := ⟨ro.toNat, by omega⟩
          have hwd4 : wd < 4 := by omega
          have hrg8 : rg < 8 := by omega
          have KT := Lib.hid (show ∀ w', Below wz.heap.size wz w' → (fun w' : World => w'.cell? ⟨w.heap.size + 1, 0, none⟩ = some (.int .i64 k) ∧ w'.cell? ⟨w.heap.size + 1, 1, none⟩ = some (.int .i64 i) ∧ w'.cell? ⟨ab, ao + k, none⟩ = some (.slice (some ⟨lb, lo, none⟩) xn xc) ∧ w'.cell? ⟨lb, lo + i * 5, none⟩ = some (.int .i64 kd) ∧ w'.cell? ⟨lb, lo + i * 5 + 1, none⟩ = some (.int .i64 (wd : Int)) ∧ w'.cell? ⟨lb, lo + i * 5 + 2, none⟩ = some (.int .i64 on) ∧ w'.cell? ⟨lb, lo + i * 5 + 3, none⟩ = some (.int .i64 om) ∧ w'.cell? ⟨lb, lo + i * 5 + 4, none⟩ = some (.int .i64 (rg : Int))) w' from fun w' hb => by
            have hbw' := D1.out.bel.trans (hb.mono D1.out.bel.size)
            have h0 := (belc hbw' halt).trans (hat k _ hx 0 _ rfl)
            have h1 := D1.out.below hb
            exact ⟨h1.v0, h1.v1, by simpa using h0, (belc hbw' hllt).trans (hlat i _ ho 0 _ rfl), (belc hbw' hllt).trans (hlat i _ ho 1 _ rfl), (belc hbw' hllt).trans (hlat i _ ho 2 _ rfl), (belc hbw' hllt).trans (hlat i _ ho 3 _ rfl), (belc hbw' hllt).trans (hlat i _ ho 4 _ rfl)⟩)
          obtain ⟨dv0, dv1, l0, l1, l2, l3, l4, l5⟩ := KT.out wz (Below.refl _ _)
          have hklI : (k : Int) < (ts2.length : Int) := by omega
          have hknI : (k : Int) < (n : Int) := by omega
          have hixI : (i : Int) < (xn : Int) := by omega
          have hi0 : ¬ (i : Int) < 0 := by omega
          have hi8I : (i : Int) < 8 := by omega
          have hwdI : (wd : Int) < 4 := by omega
          have hrgI : (rg : Int) < 8 := by omega
          have d4 := D1.out.s.s
          have HU := Lib.hid hu
          have HUN := Lib.hid hun
          have HVK := Lib.hid hlk
          have HTK := Lib.hid htk
          have HO := Lib.hid ho
          have HCAN := Lib.hid hcan
          clear hu hun hlk htk ho hcan hx hat hlat HXS hfo hwo hro hlk0
          go_upto_region 12 with fail
          go_cut [12] (fun s12 wa => s12 = .pointer (some ⟨wz.heap.size, 0, none⟩) ∧ OpAt wa wz.heap.size ⟨kd, wd, on, om, rg⟩ ∧ Below wz.heap.size wz wa ∧ wz.heap.size + 1 ≤ wa.heap.size)
          case first =>
            go_region_held3 (fun w' : World => w'.cell? ⟨w.heap.size + 1, 0, none⟩ = some (.int .i64 k) ∧ w'.cell? ⟨w.heap.size + 1, 1, none⟩ = some (.int .i64 i) ∧ w'.cell? ⟨ab, ao + k, none⟩ = some (.slice (some ⟨lb, lo, none⟩) xn xc) ∧ w'.cell? ⟨lb, lo + i * 5, none⟩ = some (.int .i64 kd) ∧ w'.cell? ⟨lb, lo + i * 5 + 1, none⟩ = some (.int .i64 (wd : Int)) ∧ w'.cell? ⟨lb, lo + i * 5 + 2, none⟩ = some (.int .i64 on) ∧ w'.cell? ⟨lb, lo + i * 5 + 3, none⟩ = some (.int .i64 om) ∧ w'.cell? ⟨lb, lo + i * 5 + 4, none⟩ = some (.int .i64 (rg : Int)))
              (first | (refine KT.out _ ?_; (repeat (first | (with_reducible exact Below.refl _ _) | (with_reducible refine Below.drew ?_) | (with_reducible refine Below.setCell ?_ ?_ _; rotate_left; (first | omega | (simp <;> omega))) | (with_reducible refine Below.alloc ?_ ?_ _; rotate_left; (first | omega | (simp <;> omega))))); done))
              (fail)
            all_goals
              go_wp2
              go_meet
              refine ⟨rfl, ⟨?_, ?_, ?_, ?_, ?_⟩, (by repeat (first | (with_reducible exact (Below.refl _ _)) | (with_reducible refine Below.drew ?_) | (with_reducible refine below_drewN ?_ _) | (with_reducible refine Below.setCell ?_ ?_ _; rotate_left; (first | omega | (simp <;> omega))) | (with_reducible refine Below.alloc ?_ ?_ _; rotate_left; (first | omega | (simp <;> omega))))), by show _ ≤ (wz.alloc _).heap.size; simp⟩
              all_goals (show (wz.alloc _).cell? _ = _; rw [cell_new _ _ _ _ _ rfl]; rfl)
          case rest =>
            obtain ⟨rfl, hop, hba, hza⟩ := hcut
            rename World => wa
            have D2 := Lib.hid (D1.out.below hba)
            have hklen := HUN.out
            obtain ⟨o0, o1, o2, o3, o4⟩ := hop
            have a1 := D2.out.v1
            have a1' : wa.cell? ⟨w.heap.size + 1, 1, none⟩ = some (.int .i64 i) := a1
            have q0 : wa.cell? ⟨g, k * 17 + i, none⟩ = some (.bool (u.done i)) := D2.out.own.at_ k u HU.out i _ (tr_at u hi8)
            have q0f : wa.frozen? ⟨g, k * 17 + i, none⟩ = false := D2.out.own.fr _
            clear dv0 dv1 l0 l1 l2 l3 l4 l5 d4 a1
            have hgz : g ≠ wz.heap.size := by have := D1.out.own.lt; omega
            go_upto_region 13 with fail
            go_cut [74] (fun _ wb => Hid (DoAt w wb mem g ts2.length c1 (ts2.set k ⟨upd u.done i true, u.regs, u.A, u.n, u.c, u.q⟩) ⟨k, i, 0⟩) ∧ Hid (OpAt wb wz.heap.size ⟨kd, wd, on, om, rg⟩) ∧ wz.heap.size + 1 ≤ wb.heap.size)
            case first =>
              go_region_law (fail)
              all_goals
                go_wp2
                go_meet
                have hdr : Below wa.heap.size wa wa.drew := Below.drew (Below.refl _ _)
                have hd2 := D2.out.below hdr
                exact ⟨Lib.hid (hd2.setTr HU.out (by omega) ((hd2.own.at_ k u HU.out).setD hi8 true)), Lib.hid ((OpAt.below ⟨o0, o1, o2, o3, o4⟩ hdr (by omega)).other hgz _), by simp; exact hza⟩
            case rest =>
              obtain ⟨D3, HOP3, hzb⟩ := hcut
              rename World => wb
              have hlenU := HUN.out
              have hroomU := HR2.out u (List.mem_of_getElem? HU.out)
              have hu3 : (ts2.set k ⟨upd u.done i true, u.regs, u.A, u.n, u.c, u.q⟩)[k]? = some ⟨upd u.done i true, u.regs, u.A, u.n, u.c, u.q⟩ := by rw [List.getElem?_set_self hkl]
              have HU3 := Lib.hid hu3
              clear hu3 q0 q0f o0 o1 o2 o3 o4 a1'
              obtain ⟨o0, o1, o2, o3, o4⟩ := HOP3.out
              simp only at o0 o1 o2 o3 o4
              have hg3 := D3.out.own.lo
              go_upto_block 0 with fail
              go_cut [80] (fun _ wx => Hid (∃ mem' t', stepOp m mem u.pt i ⟨kd, wd, on, om, rg⟩ = (mem', Tr.pt t') ∧ After w wx mem' g ts2 c1 k t'))
              case rest =>
                obtain ⟨mem', t', hst, hAf⟩ := hcut.out
                rename World => wx
                have HST1 := Lib.hid hst
                have HAF := Lib.hid hAf
                clear hst hAf hcut
                go_wp2_with (first | (with_reducible refine wpList_load_st rfl (.tmp 6) rfl (by simp [Act.eval, Act.put]) HAF.out.s ?_) | (with_reducible refine wpList_store_st rfl (.tmp 8) (.tmp 147) rfl (mem := mem') (A := some ⟨g, 0, none⟩) (n := ts2.length) (c := c1) (by simp [Act.eval, Act.put]) (by simp [Act.eval, Act.put]) HAF.out.r ?_; intro wf hst hgr; have HST := Lib.hid hst; have HGF := Lib.hid hgr; clear hst hgr))
                refine bodyPost_ret (results_st rfl rfl HST.out) rfl ?_
                have hfin := fin_gives (mem' := mem') (t' := t') HAF.out.f HAF.out.l HGF.out hg3 HAF.out.b HAF.out.z HPT2.out HR2.out HAF.out.m hnc2 hcc2
                have hstp := Stp.op (m := m) (mem := mem) k _ u.pt i _ HVK.out HTK.out HO.out HCAN.out
                rw [HST1.out] at hstp
                exact .inr (.inr ⟨HIN.out, _, _, hstp, hfin⟩)
              case first =>
                by_cases h1 : kd = 1
                · subst h1
                  cases hq : queuesB m with
                  | true =>
                    have HQ := Lib.hid hq
                    clear hq
                    focus
                      obtain ⟨i0, hi, iz0, iz1, iz2⟩ := info_parts DelWt.infoE
                      have g16 : wb.cell? ⟨g, k * 17 + 16, none⟩ = some (.slice u.A u.n u.c) := D3.out.own.at_ k _ HU3.out 16 _ rfl
                      have g16f : wb.frozen? ⟨g, k * 17 + 16, none⟩ = false := D3.out.own.fr _
                      have hglb := D3.out.own.lt
                      have hszb := D3.out.sz
                      have HSTL := Lib.hid (show ∀ A5 c5, stepOp m mem u.pt i ⟨1, wd, on, om, rg⟩ = (mem, Tr.pt ⟨upd u.done i true, u.regs, A5, u.n + 1, c5, u.q ++ [⟨wd, on⟩]⟩) from fun A5 c5 => by simp [stepOp, HQ.out, Tr.pt])
                      go_upto_region 17 with (go_at_call 37; refine (queues_any m wb).mono ?_; rintro e wc ⟨rfl, hbc⟩; rw [HQ.out])
                      have HD := Lib.hid (D3.out.below hbc)
                      have q16 := (belc hbc hglb).trans g16
                      have q16f := (belf hbc hglb).trans g16f
                      have hgc : g < wc.heap.size := by have := hbc.size; omega
                      have hszc : w.heap.size + 3 ≤ wc.heap.size := by have := hbc.size; omega
                      clear o0 o1 o2 o3 o4 g16 g16f
                      have HOPC := Lib.hid (HOP3.out.below hbc (by omega))
                      obtain ⟨o0, o1, o2, o3, o4⟩ := HOPC.out
                      simp only at o0 o1 o2 o3 o4
                      obtain ⟨WX, hWX⟩ : ∃ WX, WX = (wc.alloc (.cells #[.int .i64 (wd : Int), .int .i64 on] 72)).drew := ⟨_, rfl⟩
                      have hbX : Below wc.heap.size wc WX := by rw [hWX]; exact (by repeat (first | (with_reducible exact (Below.refl _ _)) | (with_reducible refine Below.drew ?_) | (with_reducible refine below_drewN ?_ _) | (with_reducible refine Below.setCell ?_ ?_ _; rotate_left; (first | omega | (simp <;> omega))) | (with_reducible refine Below.alloc ?_ ?_ _; rotate_left; (first | omega | (simp <;> omega)))))
                      have HDX := Lib.hid (HD.out.below hbX)
                      have HOX := Lib.hid (show WX.ownsRow (w.heap.size + 3) 72 2 (.slice u.A u.n u.c) u.n (u.q.flatMap Wt.cells) from HDX.out.own.own ⟨upd u.done i true, u.regs, u.A, u.n, u.c, u.q⟩ (List.mem_of_getElem? HU3.out))
                      have HNX := Lib.hid (show (Value.slice u.A u.n u.c).ownBlock ≠ some g from HDX.out.own.ne ⟨upd u.done i true, u.regs, u.A, u.n, u.c, u.q⟩ (List.mem_of_getElem? HU3.out))
                      have F1 := Lib.hid (show ∀ ad, some (⟨wc.heap.size, 0, none⟩ : Addr) = some ad → ∀ (j' : Nat) (x : Value), (Wt.cells ⟨wd, on⟩)[j']? = some x → WX.cell? (ad.add j') = some x from fun ad h j' x hx => by
                        injection h with h
                        subst h
                        rw [hWX]
                        show (wc.alloc _).cell? _ = _
                        rw [Addr.add_lit, cell_new _ _ _ _ _ rfl, Nat.zero_add, ← Array.getElem?_toList]; exact hx)
                      have hzX : WX.heap.size = wc.heap.size + 1 := by rw [hWX]; show (wc.alloc _).heap.size = _; simp
                      have q17 := (belc hbX hgc).trans q16
                      have q17f := (belf hbX hgc).trans q16f
                      have hun9 : u.n ≤ 900 := hroomU.2.2
                      have HWX := Lib.hid hWX
                      have FIN := Lib.hid (show ∀ A5 c5 w5, w5.ownsRow (w.heap.size + 3) 72 2 (.slice A5 (u.n + 1) c5) (u.n + 1) (u.q.flatMap Wt.cells ++ Wt.cells ⟨wd, on⟩) → WX.grownBy w5 (Value.slice u.A u.n u.c).ownBlock → (∀ b, (Value.slice A5 (u.n + 1) c5).ownBlock = some b → (Value.slice u.A u.n u.c).ownBlock = some b ∨ b = WX.heap.size) → (w5.cell? ⟨g, k * 17 + 16, none⟩ = some (.slice u.A u.n u.c) ∧ w5.frozen? ⟨g, k * 17 + 16, none⟩ = false) ∧ After w (w5.setCell ⟨g, k * 17 + 16, none⟩ (.slice A5 (u.n + 1) c5)) mem g ts2 c1 k ⟨upd u.done i true, u.regs, A5, u.n + 1, c5, u.q ++ [⟨wd, on⟩]⟩ from fun A5 c5 w5 hown5 hgr5 hA5 => by
                        have hlo : ∀ b, (Value.slice u.A u.n u.c).ownBlock = some b → w.heap.size + 3 ≤ b := fun b hb => (own_block_lt HOX.out hb).1
                        have hgl : g < WX.heap.size := by omega
                        have hA' : ∀ ad, A5 = some ad → ad.block ≠ g ∧ w.heap.size + 3 ≤ ad.block := fun ad e => by
                          subst e
                          rcases hA5 ad.block rfl with h | h
                          · exact ⟨fun e => HNX.out (by rw [h, e]), hlo _ h⟩
                          · omega
                        have hls : (u.q ++ [(⟨wd, on⟩ : Wt)]).length = u.n + 1 := by rw [List.length_append, hlenU]; rfl
                        have hq5 : Sl w5 w5.heap.size 2 Wt.cells A5 (u.n + 1) (u.q ++ [⟨wd, on⟩]) := Sl.of_own Wt.size hls (by rw [List.flatMap_append]; simpa using hown5)
                        have hne1 : ∀ b, b < w.heap.size + 3 → (Value.slice u.A u.n u.c).ownBlock ≠ some b := fun b hb e => by have := hlo b e; omega
                        have hf := HDX.out.own.fin (len_set HLEN2.out hlenU) HU3.out hgr5 (c' := c5) hq5 (fun ad e => (hA' ad e).1)
                        have hl := HDX.out.own.lows (k := k) (t' := ⟨upd u.done i true, u.regs, A5, u.n + 1, c5, u.q ++ [⟨wd, on⟩]⟩) (fun ad e => (hA' ad e).2)
                        rw [List.set_set] at hl
                        rw [List.set_set, List.length_set] at hf
                        refine ⟨⟨((gcell hgr5).1 g _ hgl (fun e => HNX.out e.symm)).trans q17, ((gcell hgr5).2 g _ hgl (fun e => HNX.out e.symm)).trans q17f⟩, (HDX.out.s.grown hgr5 (by omega) (hne1 _ (by omega))).other (by show g ≠ _; omega) _, (HDX.out.r.grown hgr5 (by omega) (hne1 _ (by omega))).other (by show g ≠ _; omega) _, hf, hl, (HDX.out.bel.grown hgr5 (by omega) (fun b e => by have := hlo b e; omega)).setCell (by show _ ≤ g; omega) _, by have := hgr5.size; simp; omega, ?_⟩
                        have := own_room hown5
                        have := own_cap hown5
                        simp only
                        omega)
                      clear hbX q17 q17f
                      go_region_law (first
                        | (refine step_append_any rfl (.tmp 88) (.tmp 94) 45 rfl (w.heap.size + 3) 72 i0 _ 2 16 Try.underlying45 hi iz0 iz1 iz2 rfl (by decide) (.slice u.A u.n u.c) u.n (u.q.flatMap Wt.cells) (by simp [Act.eval]) (by rw [← HWX.out]; exact HOX.out) (some ⟨wc.heap.size, 0, none⟩) 1 1 (Wt.cells ⟨wd, on⟩) (by simp [Act.eval]) (by intro h; cases h) rfl (by rw [← HWX.out]; exact F1.out) (by simp [Wt.cells, Value.oneCell']) (by unfold maxLen; omega) (by omega) (by rw [← HWX.out, hzX]; omega) ?_; rw [← HWX.out]; intro A5 c5 w5 hown5 hgr5 hA5; obtain ⟨⟨y1, y2⟩, HAFT⟩ := FIN.out A5 c5 w5 hown5 hgr5 hA5; have HAFT := Lib.hid HAFT; clear hown5 hgr5 hA5))
                      all_goals
                        go_wp2
                        go_meet
                        exact Lib.hid ⟨mem, _, HSTL.out A5 c5, HAFT.out⟩
                  | false => exact absurd HOPA.out (by simp [opArm, hq])
                · have h1' : (kd == 1) = false := by simpa using h1
                  by_cases h2 : kd = 2
                  · subst h2
                    exact absurd HOPA.out (by simp [opArm])
                  · have h2' : (kd == 2) = false := by simpa using h2
                    by_cases h4 : kd = 4
                    · subst h4
                      exact absurd HOPA.out (by simp [opArm])
                    · exact absurd HOPA.out (by simp [opArm, h1, h2, h4])
        · subst hve
          exact absurd HARM.out (by rw [armOf_in HVAL.out HIN.out, subArm_st]; decide)
end Go.Proofs.Ytnomghcieomjmaa
