/- A move is made: the walk, arm 6. -/
import Derived.Test.YtnomghcieomjmaaQH
import Derived.Deep.DeepCutAuto
import Derived.Deep.CutBlock
import Derived.Deep.LoopGhost
namespace Go.Proofs.Ytnomghcieomjmaa
open Go.RowKit
attribute [local go_sem ↓] exec17

set_option maxRecDepth 100000 in
set_option maxHeartbeats 40000000 in
theorem do_arm6 (m : Int) (A : Option Addr) (n c : Nat) (l : List Th) (mem : Nat → Int) (SA : Option Addr) (sn sc : Nat) (ts : List Tr) (v : Mv) (w : World)
    (hT : Ths w w.heap.size A n l) (hn : n ≤ 9000000000000) (hm : ∀ t ∈ l, t.n ≤ 9000000000000) (hro : Rooms l) (hS : Sts w w.heap.size SA sn ts) (hrs : Roomy ts) (hsn : sn ≤ 1000) (hww : Words ts) (hqb : ∀ t ∈ ts, t.n ≤ 900) (harm : armOf m (l.map Th.s) (ts.map Tr.pt) v = 6) :
    Calls Try.prog 15 #[.int .i64 m, .slice A n c, stVal mem SA sn sc, .agg #[.int .i64 v.thread, .int .i64 v.op, .int .i64 v.store]] w (GivesDo m (l.map Th.s) mem (ts.map Tr.pt) v w) := by
  have HT := Lib.hid hT
  have HS := Lib.hid hS
  have HLT := Lib.hid hT.sl.len
  have HLS := Lib.hid hS.sl.len
  have HRO := Lib.hid hro
  have HRS := Lib.hid hrs
  have HWW := Lib.hid hww
  have HQB := Lib.hid hqb
  have HARM := Lib.hid harm
  clear hT hS hro hrs hww hqb harm
  obtain ⟨W0, hW0⟩ : ∃ W0, W0 = ((w.alloc (.cells #[.int .i64 (mem 0), .int .i64 (mem 1), .int .i64 (mem 2), .int .i64 (mem 3), .slice SA sn sc] 31)).alloc (.cells #[.int .i64 v.thread, .int .i64 v.op, .int .i64 v.store] 41)).alloc (.cells #[.int .i64 0, .int .i64 0, .int .i64 0, .int .i64 0, .slice none 0 0] 31) := ⟨_, rfl⟩
  have hb0 : Below w.heap.size w W0 := by rw [hW0]; exact (by repeat (first | (with_reducible exact (Below.refl _ _)) | (with_reducible refine Below.drew ?_) | (with_reducible refine below_drewN ?_ _) | (with_reducible refine Below.setCell ?_ ?_ _; rotate_left; (first | omega | (simp <;> omega))) | (with_reducible refine Below.alloc ?_ ?_ _; rotate_left; (first | omega | (simp <;> omega)))))
  have hz0 : w.heap.size + 3 ≤ W0.heap.size := by rw [hW0]; simp
  have K1 := Lib.hid (show StAt W0 w.heap.size mem SA sn sc from by rw [hW0]; exact (StAt.new w mem SA sn sc).below (by repeat (first | (with_reducible exact (Below.refl _ _)) | (with_reducible refine Below.drew ?_) | (with_reducible refine below_drewN ?_ _) | (with_reducible refine Below.setCell ?_ ?_ _; rotate_left; (first | omega | (simp <;> omega))) | (with_reducible refine Below.alloc ?_ ?_ _; rotate_left; (first | omega | (simp <;> omega))))) (by simp))
  have K2 := Lib.hid (show StAt W0 (w.heap.size + 2) (fun _ => 0) none 0 0 from by
    rw [hW0]
    have := StAt.new ((w.alloc (.cells #[.int .i64 (mem 0), .int .i64 (mem 1), .int .i64 (mem 2), .int .i64 (mem 3), .slice SA sn sc] 31)).alloc (.cells #[.int .i64 v.thread, .int .i64 v.op, .int .i64 v.store] 41)) (fun _ => 0) none 0 0
    rwa [World.size_alloc, World.size_alloc] at this)
  have KV := Lib.hid (show ∀ w', Below W0.heap.size W0 w' → w'.cell? ⟨w.heap.size + 1, 0, none⟩ = some (.int .i64 v.thread) ∧ w'.cell? ⟨w.heap.size + 1, 1, none⟩ = some (.int .i64 v.op) ∧ w'.cell? ⟨w.heap.size + 1, 2, none⟩ = some (.int .i64 v.store) from fun w' hb => ⟨(belc hb (by omega)).trans (by rw [hW0, cell_old _ _ _ _ (by simp <;> omega), cell_new _ _ _ _ _ (by simp <;> omega)]; rfl), (belc hb (by omega)).trans (by rw [hW0, cell_old _ _ _ _ (by simp <;> omega), cell_new _ _ _ _ _ (by simp <;> omega)]; rfl), (belc hb (by omega)).trans (by rw [hW0, cell_old _ _ _ _ (by simp <;> omega), cell_new _ _ _ _ _ (by simp <;> omega)]; rfl)⟩)
  go_enter Try.func15, Try.ntmps15
  go_upto_region 1 with fail
  rw [← hW0]
  have HW0 := Lib.hid hW0
  clear hW0
  cases hval : validT (l.map Th.s) with
  | false =>
    have HVAL := Lib.hid hval
    clear hval
    go_wp2_with (first | (go_at_call 20; refine (valid_any A n c l W0 (HT.out.up hb0) hn hm).mono ?_; rintro e W1 ⟨rfl, hb1⟩; rw [HVAL.out]; have KC1 := Lib.hid (K2.out.below hb1 (by omega))) | (with_reducible refine wpList_store_st rfl (.tmp 8) (.tmp 16) rfl (mem := mem0) (A := none) (n := 0) (c := 0) (by simp [Act.eval]) (by simp [Act.eval, mem0]) KC1.out ?_; intro W2 hst hgr; have HST := Lib.hid hst; clear hst))
    have hbw1 : Below w.heap.size w W1 := hb0.trans (hb1.mono hb0.size)
    refine bodyPost_ret (results_st rfl rfl HST.out) rfl ?_
    exact .inl ⟨HVAL.out, none, 0, 0, [], rfl, ⟨Sl.nil, fun t ht => absurd ht (by simp)⟩, fun t ht => absurd ht (by simp), rfl, hbw1.grown hgr hbw1.size (fun k e => by cases e; omega), by omega, by omega, (fun ad e => by cases e), fun t ht => absurd ht (by simp)⟩
  | true =>
    have HVAL := Lib.hid hval
    clear hval
    have hsh := few_of_valid HVAL.out
    rw [List.length_map, HLT.out] at hsh
    have HMV := Lib.hid (show (movesP m (l.map Th.s) (ts.map Tr.pt)).length ≤ 4000 from by
      unfold movesP
      split
      · have := mvs_len (m := m) (ths := l.map Th.s) (ts := ts.map Tr.pt) (fun y hy => short_of_valid HVAL.out hy) (fun y hy => by obtain ⟨x, hx, rfl⟩ := List.mem_map.1 hy; show x.q.length ≤ 1000; rw [(HS.out.q x hx).len]; exact (HRS.out x hx).2.2) (l.map Th.s).length
        rw [List.length_map, HLT.out] at this ⊢
        omega
      · simp)
    go_upto_region 3 with (first | (go_at_call 20; refine (valid_any A n c l W0 (HT.out.up hb0) hn hm).mono ?_; rintro e W1 ⟨rfl, hb1⟩; rw [HVAL.out]))
    have hz1 := hb1.size
    have hbw1 : Below w.heap.size w W1 := hb0.trans (hb1.mono hb0.size)
    have KS := Lib.hid (show ∀ w', Below W1.heap.size W1 w' → (fun w' : World => (w'.cell? ⟨w.heap.size, 0, none⟩ = some (.int .i64 (mem 0)) ∧ w'.cell? ⟨w.heap.size, 1, none⟩ = some (.int .i64 (mem 1)) ∧ w'.cell? ⟨w.heap.size, 2, none⟩ = some (.int .i64 (mem 2)) ∧ w'.cell? ⟨w.heap.size, 3, none⟩ = some (.int .i64 (mem 3)) ∧ w'.cell? ⟨w.heap.size, 4, none⟩ = some (.slice SA sn sc)) ∧ (w'.cell? ⟨w.heap.size + 1, 0, none⟩ = some (.int .i64 v.thread) ∧ w'.cell? ⟨w.heap.size + 1, 1, none⟩ = some (.int .i64 v.op) ∧ w'.cell? ⟨w.heap.size + 1, 2, none⟩ = some (.int .i64 v.store))) w' from fun w' hb => by
      have hb' := hb1.trans (hb.mono hz1)
      have h := K1.out.below hb' (by omega)
      exact ⟨⟨h.m (by omega), h.m (by omega), h.m (by omega), h.m (by omega), h.s⟩, KV.out w' hb'⟩)
    go_cut [23] (fun s23 wx => s23 = .bool (!decide (v ∈ movesP m (l.map Th.s) (ts.map Tr.pt))) ∧ Below W1.heap.size W1 wx)
    case first =>
      go_region_held3 (fun w' : World => (w'.cell? ⟨w.heap.size, 0, none⟩ = some (.int .i64 (mem 0)) ∧ w'.cell? ⟨w.heap.size, 1, none⟩ = some (.int .i64 (mem 1)) ∧ w'.cell? ⟨w.heap.size, 2, none⟩ = some (.int .i64 (mem 2)) ∧ w'.cell? ⟨w.heap.size, 3, none⟩ = some (.int .i64 (mem 3)) ∧ w'.cell? ⟨w.heap.size, 4, none⟩ = some (.slice SA sn sc)) ∧ (w'.cell? ⟨w.heap.size + 1, 0, none⟩ = some (.int .i64 v.thread) ∧ w'.cell? ⟨w.heap.size + 1, 1, none⟩ = some (.int .i64 v.op) ∧ w'.cell? ⟨w.heap.size + 1, 2, none⟩ = some (.int .i64 v.store)))
        (first | (refine KS.out _ ?_; (repeat (first | (with_reducible exact Below.refl _ _) | (with_reducible exact hZ) | (with_reducible exact hY) | (with_reducible refine Below.drew ?_))); done))
        (first | (go_at_call 13; refine (moves_any m A n c l (mem 0) (mem 1) (mem 2) (mem 3) SA sn sc ts _ ((HT.out.up hbw1).up (by repeat (first | (with_reducible exact (Below.refl _ _)) | (with_reducible refine Below.drew ?_) | (with_reducible refine below_drewN ?_ _) | (with_reducible refine Below.setCell ?_ ?_ _; rotate_left; (first | omega | (simp <;> omega))) | (with_reducible refine Below.alloc ?_ ?_ _; rotate_left; (first | omega | (simp <;> omega)))))) hn hm HRO.out ((HS.out.up hbw1).up (by repeat (first | (with_reducible exact (Below.refl _ _)) | (with_reducible refine Below.drew ?_) | (with_reducible refine below_drewN ?_ _) | (with_reducible refine Below.setCell ?_ ?_ _; rotate_left; (first | omega | (simp <;> omega))) | (with_reducible refine Below.alloc ?_ ?_ _; rotate_left; (first | omega | (simp <;> omega)))))) HRS.out (by omega)).mono ?_; rintro e Y ⟨A2, n2, c2, rfl, hn2, hnc2, hc2, hsl2, hY, _⟩; have HSL2 := Lib.hid hsl2; have HN2 := Lib.hid hn2; clear hsl2 hn2; have hY : Below W1.heap.size W1 Y := Below.trans (by repeat (first | (with_reducible exact (Below.refl _ _)) | (with_reducible refine Below.drew ?_) | (with_reducible refine below_drewN ?_ _) | (with_reducible refine Below.setCell ?_ ?_ _; rotate_left; (first | omega | (simp <;> omega))) | (with_reducible refine Below.alloc ?_ ?_ _; rotate_left; (first | omega | (simp <;> omega))))) (hY.mono (by simp))) | (go_at_call 34; refine (containsMv_any A2 n2 c2 (movesP m (l.map Th.s) (ts.map Tr.pt)) v _ (Sl.up HSL2.out (by repeat (first | (with_reducible exact (Below.refl _ _)) | (with_reducible refine Below.drew ?_) | (with_reducible refine below_drewN ?_ _) | (with_reducible refine Below.setCell ?_ ?_ _; rotate_left; (first | omega | (simp <;> omega))) | (with_reducible refine Below.alloc ?_ ?_ _; rotate_left; (first | omega | (simp <;> omega)))))) (by have := HN2.out; have := HMV.out; omega)).mono ?_; rintro e Z ⟨rfl, hZ⟩; have hZ : Below W1.heap.size W1 Z := hY.trans (Below.mono (Below.trans (by repeat (first | (with_reducible exact (Below.refl _ _)) | (with_reducible refine Below.drew ?_) | (with_reducible refine below_drewN ?_ _) | (with_reducible refine Below.setCell ?_ ?_ _; rotate_left; (first | omega | (simp <;> omega))) | (with_reducible refine Below.alloc ?_ ?_ _; rotate_left; (first | omega | (simp <;> omega))))) hZ) hY.size)))
      all_goals
        go_wp2
        go_meet
        exact ⟨rfl, hZ⟩
    case rest =>
      obtain ⟨rfl, hbx⟩ := hcut
      rename World => wx
      have hzx := hbx.size
      have hbwx : Below w.heap.size w wx := hbw1.trans (hbx.mono hbw1.size)
      have hb0x : Below W0.heap.size W0 wx := hb1.trans (hbx.mono hz1)
      cases hin : decide (v ∈ movesP m (l.map Th.s) (ts.map Tr.pt)) with
      | false =>
        have HIN := Lib.hid (of_decide_eq_false hin)
        clear hin
        have KC1 := Lib.hid (K2.out.below hb0x (by omega))
        go_wp2_with (first | (with_reducible refine wpList_store_st rfl (.tmp 8) (.tmp 24) rfl (mem := mem0) (A := none) (n := 0) (c := 0) (by simp [Act.eval]) (by simp [Act.eval, mem0]) KC1.out ?_; intro W2 hst hgr; have HST := Lib.hid hst; clear hst))
        refine bodyPost_ret (results_st rfl rfl HST.out) rfl ?_
        exact .inr (.inl ⟨HVAL.out, HIN.out, none, 0, 0, [], rfl, ⟨Sl.nil, fun t ht => absurd ht (by simp)⟩, fun t ht => absurd ht (by simp), rfl, hbwx.grown hgr hbwx.size (fun k e => by cases e; omega), by omega, by omega, (fun ad e => by cases e), fun t ht => absurd ht (by simp)⟩)
      | true =>
        exact absurd HARM.out (by rw [armOf_in HVAL.out (of_decide_eq_true hin)]; have := subArm_le m (l.map Th.s) v; omega)
end Go.Proofs.Ytnomghcieomjmaa
