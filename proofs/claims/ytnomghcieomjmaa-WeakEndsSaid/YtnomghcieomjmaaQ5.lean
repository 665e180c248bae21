/- A move is made: the walk, arm 5. -/
import Derived.Test.YtnomghcieomjmaaQH
import Derived.Deep.DeepCutAuto
import Derived.Deep.CutBlock
import Derived.Deep.LoopGhost
namespace Go.Proofs.Ytnomghcieomjmaa
open Go.RowKit
attribute [local go_sem ↓] exec17

set_option maxRecDepth 100000 in
set_option maxHeartbeats 40000000 in
theorem do_arm5 (m : Int) (A : Option Addr) (n c : Nat) (l : List Th) (mem : Nat → Int) (SA : Option Addr) (sn sc : Nat) (ts : List Tr) (v : Mv) (w : World)
    (hT : Ths w w.heap.size A n l) (hn : n ≤ 9000000000000) (hm : ∀ t ∈ l, t.n ≤ 9000000000000) (hro : Rooms l) (hS : Sts w w.heap.size SA sn ts) (hrs : Roomy ts) (hsn : sn ≤ 1000) (hww : Words ts) (hqb : ∀ t ∈ ts, t.n ≤ 900) (harm : armOf m (l.map Th.s) (ts.map Tr.pt) v = 5) :
    Calls Try.prog 15 #[.int .i64 m, .slice A n c, stVal mem SA sn sc, .agg #[.int .i64 v.thread, .int .i64 v.op, .int .i64 v.store]] w (GivesDo m (l.map Th.s) mem (ts.map Tr.pt) v w) := by
  have HT := Lib.hid hT
  have HS := Lib.hid hS
  have HLT := Lib.hid hT.sl.len
  have HLS := Lib.hid hS.sl.len
  have HRO := Lib.hid hro
  have HRS := Lib.hid hrs
  have HWW := Lib.hid hww
  have HQB := Lib.hid hqb
  have HARM := Lib.hid harm
  clear hT hS hro hrs hww hqb harm
  obtain ⟨W0, hW0⟩ : ∃ W0, W0 = ((w.alloc (.cells #[.int .i64 (mem 0), .int .i64 (mem 1), .int .i64 (mem 2), .int .i64 (mem 3), .slice SA sn sc] 31)).alloc (.cells #[.int .i64 v.thread, .int .i64 v.op, .int .i64 v.store] 41)).alloc (.cells #[.int .i64 0, .int .i64 0, .int .i64 0, .int .i64 0, .slice none 0 0] 31) := ⟨_, rfl⟩
  have hb0 : Below w.heap.size w W0 := by rw [hW0]; exact (by repeat (first | (with_reducible exact (Below.refl _ _)) | (with_reducible refine Below.drew ?_) | (with_reducible refine below_drewN ?_ _) | (with_reducible refine Below.setCell ?_ ?_ _; rotate_left; (first | omega | (simp <;> omega))) | (with_reducible refine Below.alloc ?_ ?_ _; rotate_left; (first | omega | (simp <;> omega)))))
  have hz0 : w.heap.size + 3 ≤ W0.heap.size := by rw [hW0]; simp
  have K1 := Lib.hid (show StAt W0 w.heap.size mem SA sn sc from by rw [hW0]; exact (StAt.new w mem SA sn sc).below (by repeat (first | (with_reducible exact (Below.refl _ _)) | (with_reducible refine Below.drew ?_) | (with_reducible refine below_drewN ?_ _) | (with_reducible refine Below.setCell ?_ ?_ _; rotate_left; (first | omega | (simp <;> omega))) | (with_reducible refine Below.alloc ?_ ?_ _; rotate_left; (first | omega | (simp <;> omega))))) (by simp))
  have K2 := Lib.hid (show StAt W0 (w.heap.size + 2) (fun _ => 0) none 0 0 from by
    rw [hW0]
    have := StAt.new ((w.alloc (.cells #[.int .i64 (mem 0), .int .i64 (mem 1), .int .i64 (mem 2), .int .i64 (mem 3), .slice SA sn sc] 31)).alloc (.cells #[.int .i64 v.thread, .int .i64 v.op, .int .i64 v.store] 41)) (fun _ => 0) none 0 0
    rwa [World.size_alloc, World.size_alloc] at this)
  have KV := Lib.hid (show ∀ w', Below W0.heap.size W0 w' → w'.cell? ⟨w.heap.size + 1, 0, none⟩ = some (.int .i64 v.thread) ∧ w'.cell? ⟨w.heap.size + 1, 1, none⟩ = some (.int .i64 v.op) ∧ w'.cell? ⟨w.heap.size + 1, 2, none⟩ = some (.int .i64 v.store) from fun w' hb => ⟨(belc hb (by omega)).trans (by rw [hW0, cell_old _ _ _ _ (by simp <;> omega), cell_new _ _ _ _ _ (by simp <;> omega)]; rfl), (belc hb (by omega)).trans (by rw [hW0, cell_old _ _ _ _ (by simp <;> omega), cell_new _ _ _ _ _ (by simp <;> omega)]; rfl), (belc hb (by omega)).trans (by rw [hW0, cell_old _ _ _ _ (by simp <;> omega), cell_new _ _ _ _ _ (by simp <;> omega)]; rfl)⟩)
  go_enter Try.func15, Try.ntmps15
  go_upto_region 1 with fail
  rw [← hW0]
  have HW0 := Lib.hid hW0
  clear hW0
  cases hval : validT (l.map Th.s) with
  | false => exact absurd HARM.out (by rw [armOf_bad hval]; decide)
  | true =>
    have HVAL := Lib.hid hval
    clear hval
    have hsh := few_of_valid HVAL.out
    rw [List.length_map, HLT.out] at hsh
    have HMV := Lib.hid (show (movesP m (l.map Th.s) (ts.map Tr.pt)).length ≤ 4000 from by
      unfold movesP
      split
      · have := mvs_len (m := m) (ths := l.map Th.s) (ts := ts.map Tr.pt) (fun y hy => short_of_valid HVAL.out hy) (fun y hy => by obtain ⟨x, hx, rfl⟩ := List.mem_map.1 hy; show x.q.length ≤ 1000; rw [(HS.out.q x hx).len]; exact (HRS.out x hx).2.2) (l.map Th.s).length
        rw [List.length_map, HLT.out] at this ⊢
        omega
      · simp)
    go_upto_region 3 with (first | (go_at_call 20; refine (valid_any A n c l W0 (HT.out.up hb0) hn hm).mono ?_; rintro e W1 ⟨rfl, hb1⟩; rw [HVAL.out]))
    have hz1 := hb1.size
    have hbw1 : Below w.heap.size w W1 := hb0.trans (hb1.mono hb0.size)
    have KS := Lib.hid (show ∀ w', Below W1.heap.size W1 w' → (fun w' : World => (w'.cell? ⟨w.heap.size, 0, none⟩ = some (.int .i64 (mem 0)) ∧ w'.cell? ⟨w.heap.size, 1, none⟩ = some (.int .i64 (mem 1)) ∧ w'.cell? ⟨w.heap.size, 2, none⟩ = some (.int .i64 (mem 2)) ∧ w'.cell? ⟨w.heap.size, 3, none⟩ = some (.int .i64 (mem 3)) ∧ w'.cell? ⟨w.heap.size, 4, none⟩ = some (.slice SA sn sc)) ∧ (w'.cell? ⟨w.heap.size + 1, 0, none⟩ = some (.int .i64 v.thread) ∧ w'.cell? ⟨w.heap.size + 1, 1, none⟩ = some (.int .i64 v.op) ∧ w'.cell? ⟨w.heap.size + 1, 2, none⟩ = some (.int .i64 v.store))) w' from fun w' hb => by
      have hb' := hb1.trans (hb.mono hz1)
      have h := K1.out.below hb' (by omega)
      exact ⟨⟨h.m (by omega), h.m (by omega), h.m (by omega), h.m (by omega), h.s⟩, KV.out w' hb'⟩)
    go_cut [23] (fun s23 wx => s23 = .bool (!decide (v ∈ movesP m (l.map Th.s) (ts.map Tr.pt))) ∧ Below W1.heap.size W1 wx)
    case first =>
      go_region_held3 (fun w' : World => (w'.cell? ⟨w.heap.size, 0, none⟩ = some (.int .i64 (mem 0)) ∧ w'.cell? ⟨w.heap.size, 1, none⟩ = some (.int .i64 (mem 1)) ∧ w'.cell? ⟨w.heap.size, 2, none⟩ = some (.int .i64 (mem 2)) ∧ w'.cell? ⟨w.heap.size, 3, none⟩ = some (.int .i64 (mem 3)) ∧ w'.cell? ⟨w.heap.size, 4, none⟩ = some (.slice SA sn sc)) ∧ (w'.cell? ⟨w.heap.size + 1, 0, none⟩ = some (.int .i64 v.thread) ∧ w'.cell? ⟨w.heap.size + 1, 1, none⟩ = some (.int .i64 v.op) ∧ w'.cell? ⟨w.heap.size + 1, 2, none⟩ = some (.int .i64 v.store)))
        (first | (refine KS.out _ ?_; (repeat (first | (with_reducible exact Below.refl _ _) | (with_reducible exact hZ) | (with_reducible exact hY) | (with_reducible refine Below.drew ?_))); done))
        (first | (go_at_call 13; refine (moves_any m A n c l (mem 0) (mem 1) (mem 2) (mem 3) SA sn sc ts _ ((HT.out.up hbw1).up (by repeat (first | (with_reducible exact (Below.refl _ _)) | (with_reducible refine Below.drew ?_) | (with_reducible refine below_drewN ?_ _) | (with_reducible refine Below.setCell ?_ ?_ _; rotate_left; (first | omega | (simp <;> omega))) | (with_reducible refine Below.alloc ?_ ?_ _; rotate_left; (first | omega | (simp <;> omega)))))) hn hm HRO.out ((HS.out.up hbw1).up (by repeat (first | (with_reducible exact (Below.refl _ _)) | (with_reducible refine Below.drew ?_) | (with_reducible refine below_drewN ?_ _) | (with_reducible refine Below.setCell ?_ ?_ _; rotate_left; (first | omega | (simp <;> omega))) | (with_reducible refine Below.alloc ?_ ?_ _; rotate_left; (first | omega | (simp <;> omega)))))) HRS.out (by omega)).mono ?_; rintro e Y ⟨A2, n2, c2, rfl, hn2, hnc2, hc2, hsl2, hY, _⟩; have HSL2 := Lib.hid hsl2; have HN2 := Lib.hid hn2; clear hsl2 hn2; have hY : Below W1.heap.size W1 Y := Below.trans (by repeat (first | (with_reducible exact (Below.refl _ _)) | (with_reducible refine Below.drew ?_) | (with_reducible refine below_drewN ?_ _) | (with_reducible refine Below.setCell ?_ ?_ _; rotate_left; (first | omega | (simp <;> omega))) | (with_reducible refine Below.alloc ?_ ?_ _; rotate_left; (first | omega | (simp <;> omega))))) (hY.mono (by simp))) | (go_at_call 34; refine (containsMv_any A2 n2 c2 (movesP m (l.map Th.s) (ts.map Tr.pt)) v _ (Sl.up HSL2.out (by repeat (first | (with_reducible exact (Below.refl _ _)) | (with_reducible refine Below.drew ?_) | (with_reducible refine below_drewN ?_ _) | (with_reducible refine Below.setCell ?_ ?_ _; rotate_left; (first | omega | (simp <;> omega))) | (with_reducible refine Below.alloc ?_ ?_ _; rotate_left; (first | omega | (simp <;> omega)))))) (by have := HN2.out; have := HMV.out; omega)).mono ?_; rintro e Z ⟨rfl, hZ⟩; have hZ : Below W1.heap.size W1 Z := hY.trans (Below.mono (Below.trans (by repeat (first | (with_reducible exact (Below.refl _ _)) | (with_reducible refine Below.drew ?_) | (with_reducible refine below_drewN ?_ _) | (with_reducible refine Below.setCell ?_ ?_ _; rotate_left; (first | omega | (simp <;> omega))) | (with_reducible refine Below.alloc ?_ ?_ _; rotate_left; (first | omega | (simp <;> omega))))) hZ) hY.size)))
      all_goals
        go_wp2
        go_meet
        exact ⟨rfl, hZ⟩
    case rest =>
      obtain ⟨rfl, hbx⟩ := hcut
      rename World => wx
      have hzx := hbx.size
      have hbwx : Below w.heap.size w wx := hbw1.trans (hbx.mono hbw1.size)
      have hb0x : Below W0.heap.size W0 wx := hb1.trans (hbx.mono hz1)
      cases hin : decide (v ∈ movesP m (l.map Th.s) (ts.map Tr.pt)) with
      | false => exact absurd HARM.out (by rw [armOf_out (of_decide_eq_false hin)]; decide)
      | true =>
        have HIN := Lib.hid (of_decide_eq_true hin)
        clear hin
        have hsnn := Lib.hid (show sn = n from by
          have h := (mem_moves.1 HIN.out).1
          unfold okB at h
          simp only [Bool.and_eq_true, decide_eq_true_eq, List.length_map] at h
          rw [← HLS.out, ← HLT.out]
          exact h.2)
        have hsn1 : 1 ≤ sn := by rw [hsnn.out]; exact hsh.1
        have K1x := Lib.hid (K1.out.below hb0x (by omega))
        go_upto_region 6 with (first | (with_reducible refine wpList_load_st rfl (.tmp 6) rfl (by simp [Act.eval, Act.put]) K1x.out ?_) | (go_at_call 35; refine (copied_any mem SA sn sc ts wx (HS.out.up hbwx) HRS.out hsn1 hsn).mono ?_; rintro e wy ⟨g, c1, ts2, rfl, hown2, hpt2, hlen2, hby, hnc2, hcc2⟩; have HOWN2 := Lib.hid hown2; have HPT2 := Lib.hid hpt2; have HLEN2 := Lib.hid hlen2; clear hown2 hpt2 hlen2; have K1y := Lib.hid (K1x.out.below hby (by omega))) | (with_reducible refine wpList_store_st rfl (.tmp 6) (.tmp 26) rfl (mem := mem) (A := some ⟨g, 0, none⟩) (n := ts2.length) (c := c1) (by simp [Act.eval]) (by simp [Act.eval]) K1y.out ?_; intro wz hst hgr; have HSTZ := Lib.hid hst; have HGRZ := Lib.hid hgr; clear hst hgr))
        have hzy := hby.size
        have D1 := Lib.hid (show DoAt w wz mem g ts2.length c1 ts2 v from by
          have hb0y : Below W0.heap.size W0 wy := hb0x.trans (hby.mono hb0x.size)
          have hz := HGRZ.out.size
          have k2 := (K2.out.below hb0y (by omega)).grown HGRZ.out (by omega) (by intro e; injection e with e; omega)
          obtain ⟨v0, v1, v2⟩ := KV.out wy hb0y
          have hg := (gcell HGRZ.out).1
          refine ⟨HSTZ.out, k2, (hg _ _ (by omega) (by intro e; injection e with e; omega)).trans v0, (hg _ _ (by omega) (by intro e; injection e with e; omega)).trans v1, (hg _ _ (by omega) (by intro e; injection e with e; omega)).trans v2, (HOWN2.out.base (by omega)).grownLow HGRZ.out (by omega), (hbwx.trans (hby.mono hbwx.size)).grown HGRZ.out (by omega) (fun j e => by cases e; omega), by omega⟩)
        have h2z : w.heap.size + 3 ≤ wz.heap.size := D1.out.sz
        have HR2 := Lib.hid (show ∀ t ∈ ts2, t.n ≤ t.c ∧ t.c ≤ 9223372036854775807 ∧ t.n ≤ 900 from fun t ht => by
          have ho := HOWN2.out.own t ht
          obtain ⟨i, hi⟩ := List.getElem?_of_mem ht
          have h1 : (ts.map Tr.pt)[i]? = some t.pt := by rw [← HPT2.out, List.getElem?_map, hi]; rfl
          rw [List.getElem?_map] at h1
          obtain ⟨t0, ht0, hp0⟩ := Option.map_eq_some_iff.1 h1
          have hq0 : t0.q = t.q := congrArg Pt.q hp0
          refine ⟨(own_room ho).1, own_cap ho, ?_⟩
          rw [← HLEN2.out t ht, ← hq0, (HS.out.q t0 (List.mem_of_getElem? ht0)).len]
          exact HQB.out t0 (List.mem_of_getElem? ht0))
        have hmv := mem_moves.1 HIN.out
        obtain ⟨hok, k, lk, tk, hlk, htk, ⟨i, o, ho, hcan, hve⟩ | ⟨i, x, hx, harr, hve⟩⟩ := hmv
        · subst hve
          exact absurd HARM.out (by rw [armOf_in HVAL.out HIN.out, subArm_op hlk ho]; have := opArm_le m o.kind; omega)
        · obtain ⟨u, hu, rfl⟩ := D1.out.own.pts HPT2.out htk
          subst hve
          have hun := HLEN2.out u (List.mem_of_getElem? hu)
          have hin : i < u.n := by rw [← hun]; exact (List.getElem?_eq_some_iff.1 hx).1
          have hkl : k < ts2.length := (List.getElem?_eq_some_iff.1 hu).1
          obtain ⟨t0, ht0, hp0⟩ : ∃ t0, ts[k]? = some t0 ∧ t0.pt = u.pt := by
            rw [List.getElem?_map] at htk
            exact Option.map_eq_some_iff.1 htk
          have hq0 : t0.q = u.q := congrArg Pt.q hp0
          have hu9 : u.n ≤ 900 := by
            rw [← hun, ← hq0, (HS.out.q t0 (List.mem_of_getElem? ht0)).len]
            exact HQB.out t0 (List.mem_of_getElem? ht0)
          have hxw := HWW.out t0 (List.mem_of_getElem? ht0) x (by rw [hq0]; exact List.mem_of_getElem? hx)
          clear hp0 hq0 ht0
          have how := D1.out.own.own u (List.mem_of_getElem? hu)
          have hne := D1.out.own.ne u (List.mem_of_getElem? hu)
          obtain ⟨gq, hAq, hq0, hq1, hq2⟩ := own_at0 how (by omega)
          obtain ⟨wd, hwd, hwd4⟩ : ∃ wd : Nat, x.word = wd ∧ wd < 4 := ⟨x.word.toNat, by omega, by omega⟩
          clear hxw
          obtain ⟨xw, xn⟩ := x
          simp only at hwd
          subst hwd
          obtain ⟨ud, ur, uA, un, uc, uq⟩ := u
          simp only at hAq how hne hun hin hu9
          subst hAq
          have hsl := Sl.of_own Wt.size hun how
          obtain ⟨ab, ao, e, halt, hat⟩ := hsl.at_ (by omega)
          injection e with e
          injection e with e1 e2 e3
          subst e1 e2
          have x0 : wz.cell? ⟨gq, i * 2, none⟩ = some (.int .i64 (wd : Int)) := by have := hat i ⟨wd, xn⟩ hx 0 _ rfl; simpa using this
          have x1 : wz.cell? ⟨gq, i * 2 + 1, none⟩ = some (.int .i64 xn) := by have := hat i ⟨wd, xn⟩ hx 1 _ rfl; simpa using this
          have hinI : (i : Int) < (un : Int) := by omega
          have hklI : (k : Int) < (ts2.length : Int) := by omega
          have g16 : wz.cell? ⟨g, k * 17 + 16, none⟩ = some (.slice (some ⟨gq, 0, none⟩) un uc) := D1.out.own.at_ k _ hu 16 _ rfl
          have d4 := D1.out.s.s
          have dv0 := D1.out.v0
          have dv1 := D1.out.v1
          have dv2 := D1.out.v2
          simp only at dv0 dv1 dv2
          have HU := Lib.hid hu
          have HX := Lib.hid hx
          have HHOW := Lib.hid how
          have HNE := Lib.hid hne
          have HAT := Lib.hid hat
          have HUN := Lib.hid hun
          have HVK := Lib.hid hlk
          have HTK := Lib.hid htk
          have HARR := Lib.hid harr
          clear hu hx how hne hat hun hlk htk harr hsl
          go_upto_region 8 with fail
          have KT := Lib.hid (show ∀ w', Below wz.heap.size wz w' → (fun w' : World => w'.cell? ⟨g, k * 17 + 16, none⟩ = some (.slice (some ⟨gq, 0, none⟩) un uc) ∧ w'.cell? ⟨w.heap.size + 1, 2, none⟩ = some (.int .i64 i) ∧ w'.cell? ⟨gq, i * 2, none⟩ = some (.int .i64 (wd : Int)) ∧ w'.cell? ⟨gq, i * 2 + 1, none⟩ = some (.int .i64 xn)) w' from fun w' hb => ⟨(belc hb D1.out.own.lt).trans g16, (belc hb (by omega)).trans dv2, (belc hb hq1).trans x0, (belc hb hq1).trans x1⟩)
          go_cut [11] (fun s11 wa => s11 = .pointer (some ⟨wz.heap.size, 0, none⟩) ∧ wa.cell? ⟨wz.heap.size, 0, none⟩ = some (.int .i64 (wd : Int)) ∧ wa.cell? ⟨wz.heap.size, 1, none⟩ = some (.int .i64 xn) ∧ Below wz.heap.size wz wa ∧ wz.heap.size + 1 ≤ wa.heap.size)
          case first =>
            go_region_held3 (fun w' : World => w'.cell? ⟨g, k * 17 + 16, none⟩ = some (.slice (some ⟨gq, 0, none⟩) un uc) ∧ w'.cell? ⟨w.heap.size + 1, 2, none⟩ = some (.int .i64 i) ∧ w'.cell? ⟨gq, i * 2, none⟩ = some (.int .i64 (wd : Int)) ∧ w'.cell? ⟨gq, i * 2 + 1, none⟩ = some (.int .i64 xn))
              (first | (refine KT.out _ ?_; (repeat (first | (with_reducible exact Below.refl _ _) | (with_reducible refine Below.drew ?_) | (with_reducible refine Below.setCell ?_ ?_ _; rotate_left; (first | omega | (simp <;> omega))) | (with_reducible refine Below.alloc ?_ ?_ _; rotate_left; (first | omega | (simp <;> omega))))); done))
              (fail)
            all_goals
              go_wp2
              go_meet
              exact ⟨rfl, by show (wz.alloc _).cell? _ = _; rw [cell_new _ _ _ _ _ rfl]; rfl, by show (wz.alloc _).cell? _ = _; rw [cell_new _ _ _ _ _ rfl]; rfl, (by repeat (first | (with_reducible exact (Below.refl _ _)) | (with_reducible refine Below.drew ?_) | (with_reducible refine below_drewN ?_ _) | (with_reducible refine Below.setCell ?_ ?_ _; rotate_left; (first | omega | (simp <;> omega))) | (with_reducible refine Below.alloc ?_ ?_ _; rotate_left; (first | omega | (simp <;> omega))))), by show _ ≤ (wz.alloc _).heap.size; simp⟩
          case rest =>
            obtain ⟨rfl, y0, y1, hba, hza⟩ := hcut
            rename World => wa
            have D2 := Lib.hid (D1.out.below hba)
            have m0 := D2.out.s.m hwd4
            have m0f := D2.out.s.fr wd
            have hwdI : (wd : Int) < 4 := by omega
            clear g16 d4 dv0 dv1 dv2 x0 x1
            go_upto_region 10 with fail
            obtain ⟨wb, hwb⟩ : ∃ wb, wb = wa.setCell ⟨w.heap.size, wd, none⟩ (.int .i64 xn) := ⟨_, rfl⟩
            rw [← hwb]
            have D3 := Lib.hid (show DoAt w wb (upd mem wd xn) g ts2.length c1 ts2 ⟨k, -1, i⟩ from by
              rw [hwb]
              have hz := D2.out.sz
              refine ⟨D2.out.s.setMem hwd4 xn, D2.out.r.other (by show w.heap.size ≠ w.heap.size + 2; omega) _, ?_, ?_, ?_, D2.out.own.low (by show w.heap.size < _; omega) _, D2.out.bel.setCell (Nat.le_refl _) _, by simpa using hz⟩
              · rw [set_other _ _ _ _ (by intro e; injection e with e1 e2; omega)]; exact D2.out.v0
              · rw [set_other _ _ _ _ (by intro e; injection e with e1 e2; omega)]; exact D2.out.v1
              · rw [set_other _ _ _ _ (by intro e; injection e with e1 e2; omega)]; exact D2.out.v2)
            have HWB := Lib.hid hwb
            clear hwb m0 m0f y0 y1
            have how3 := Lib.hid (D3.out.own.own _ (List.mem_of_getElem? HU.out))
            have g16 : wb.cell? ⟨g, k * 17 + 16, none⟩ = some (.slice (some ⟨gq, 0, none⟩) un uc) := D3.out.own.at_ k _ HU.out 16 _ rfl
            have g16f : wb.frozen? ⟨g, k * 17 + 16, none⟩ = false := D3.out.own.fr _
            have dv2 := D3.out.v2
            simp only at dv2
            have hgl := D3.out.own.lt
            have ROW3 := Lib.hid ((Row.of_own how3.out).below (Below.drew (Below.refl wb.heap.size wb)))
            have GD3 := Lib.hid (grown_of_below (Below.drew (Below.refl wb.heap.size wb)))
            have CAP3 := Lib.hid (own_cap how3.out)
            have ONE3 := Lib.hid (wt_ones uq)
            have hi1 : i < i + 1 := by omega
            have hi2 : i + 1 ≤ un := by omega
            have hi3 : un ≤ 1000000 := by omega
            have hgq : gq ≠ g := fun e => HNE.out (by rw [e]; rfl)
            have hsum : IntKind.i64.wrap ((i : Int) + 1) = (i : Int) + 1 := by
              rw [IntKind.wrap_i64]; omega
            have CALL := Lib.hid (show Calls Try.prog 36 #[.slice (some ⟨gq, 0, none⟩) un uc, .int .i64 i, .int .i64 ((i : Int) + 1)] wb.drew (fun e w' => e = .returned (.slice (some ⟨gq, 0, none⟩) (un - 1) uc) ∧ Hid (Row w' (w.heap.size + 3) 2 (some ⟨gq, 0, none⟩) (un - 1) uc ((uq.eraseIdx i).flatMap Wt.cells)) ∧ Hid (wb.grownBy w' (some gq)) ∧ w'.cell? ⟨g, k * 17 + 16, none⟩ = some (.slice (some ⟨gq, 0, none⟩) un uc) ∧ w'.frozen? ⟨g, k * 17 + 16, none⟩ = false) from by
              have h := DelWt.any gq 0 un uc i (i + 1) (w.heap.size + 3) (uq.flatMap Wt.cells) wb.drew ROW3.out hi1 hi2 hi3 CAP3.out ONE3.out
              rw [show (((i + 1 : Nat) : Int)) = (i : Int) + 1 from by omega, show un - (i + 1 - i) = un - 1 from by omega, flat_take Wt.size, flat_drop Wt.size, ← List.flatMap_append, ← List.eraseIdx_eq_take_drop_succ] at h
              refine h.mono ?_
              rintro e w' ⟨rfl, hrow, hgr⟩
              have hgr2 := World.grownBy.trans (GD3.out (some gq)) hgr
              exact ⟨rfl, Lib.hid hrow, Lib.hid hgr2, ((gcell hgr2).1 g (k * 17 + 16) hgl (by intro e; injection e with e; exact hgq e.symm)).trans g16, ((gcell hgr2).2 g (k * 17 + 16) hgl (by intro e; injection e with e; exact hgq e.symm)).trans g16f⟩)
            go_cut [59] (fun _ wd' => ∃ wc, wd' = wc.setCell ⟨g, k * 17 + 16, none⟩ (.slice (some ⟨gq, 0, none⟩) (un - 1) uc) ∧ Hid (Row wc (w.heap.size + 3) 2 (some ⟨gq, 0, none⟩) (un - 1) uc ((uq.eraseIdx i).flatMap Wt.cells)) ∧ Hid (wb.grownBy wc (some gq)))
            case first =>
              go_region_with (first | (go_at_call 36; (try rw [hsum]); refine CALL.out.mono ?_; rintro e wc ⟨rfl, HROW, HGR, g17, g17f⟩))
              all_goals
                go_wp2
                go_meet
                exact ⟨wc, rfl, HROW, HGR⟩
            case rest =>
              rename World => we
              obtain ⟨wc, hwd', HROW, HGR⟩ := hcut
              have hz3 := D3.out.sz
              have hgz := HGR.out.size
              have hg3 : w.heap.size + 3 ≤ g := D3.out.own.lo
              have ES := Lib.hid (show StAt we w.heap.size (upd mem wd xn) (some ⟨g, 0, none⟩) ts2.length c1 from by
                rw [hwd']
                exact (D3.out.s.grown HGR.out (by omega) (by intro e; injection e with e; omega)).other (by show g ≠ _; omega) _)
              have ER := Lib.hid (show StAt we (w.heap.size + 2) (fun _ => 0) none 0 0 from by
                rw [hwd']
                exact (D3.out.r.grown HGR.out (by omega) (by intro e; injection e with e; omega)).other (by show g ≠ _; omega) _)
              have hlq : (uq.eraseIdx i).length = un - 1 := by rw [List.length_eraseIdx, if_pos (by rw [HUN.out]; exact hin), HUN.out]
              have EF := Lib.hid (show Sts we we.heap.size (some ⟨g, 0, none⟩) ts2.length (ts2.set k ⟨ud, ur, some ⟨gq, 0, none⟩, un - 1, uc, uq.eraseIdx i⟩) from by
                rw [hwd']
                exact D3.out.own.fin HLEN2.out HU.out HGR.out (HROW.out.sl Wt.size hlq) (fun ad e => by injection e with e; subst e; exact hgq))
              have EL := Lib.hid (D3.out.own.lows (k := k) (t' := ⟨ud, ur, some ⟨gq, 0, none⟩, un - 1, uc, uq.eraseIdx i⟩) (fun ad e => by injection e with e; subst e; exact hq0))
              have EB := Lib.hid (show Below w.heap.size w we from by
                rw [hwd']
                exact (D3.out.bel.grown HGR.out (by omega) (fun j e => by cases e; omega)).setCell (by show _ ≤ g; omega) _)
              have hze : w.heap.size + 3 ≤ we.heap.size := by rw [hwd']; simp; omega
              clear hwd' g16 g16f dv2
              go_wp2_with (first | (with_reducible refine wpList_load_st rfl (.tmp 6) rfl (by simp [Act.eval, Act.put]) ES.out ?_) | (with_reducible refine wpList_store_st rfl (.tmp 8) (.tmp 62) rfl (mem := upd mem wd xn) (A := some ⟨g, 0, none⟩) (n := ts2.length) (c := c1) (by simp [Act.eval, Act.put]) (by simp [Act.eval, Act.put]) ER.out ?_; intro wf hst hgr; have HST := Lib.hid hst; have HGF := Lib.hid hgr; clear hst hgr))
              have hpts := HPT2.out
              refine bodyPost_ret (results_st rfl rfl HST.out) rfl ?_
              have hfin := fin_gives (mem' := upd mem wd xn) EF.out EL.out HGF.out hg3 EB.out hze hpts HR2.out (by have := HR2.out _ (List.mem_of_getElem? HU.out); simp only at this ⊢; omega) hnc2 hcc2
              exact .inr (.inr ⟨HIN.out, _, _, .st k lk _ i ⟨wd, xn⟩ HVK.out HTK.out HX.out HARR.out, hfin⟩)
end Go.Proofs.Ytnomghcieomjmaa
