/- An object put into a heap: the program. -/
import Derived.Test.YtohflngcgmcllaaP
import Derived.Test.YtohflngcgmcllaaIdxO
import Derived.Test.YtohflngcgmcllaaInsO
namespace Go.Proofs.Ytohflngcgmcllaa
open Go.RowKit

theorem gt_any (x : Ob) (p : Nat) (k : Int) (w : World) (hp : p < w.heap.size) (hc : w.cell? ⟨p, 0, none⟩ = some (.int .i64 k)) :
    Calls Try.prog 29 #[.agg #[.int .i64 x.id, .slice x.A x.n x.c], .pointer (some ⟨p, 0, none⟩)] w fun e w' => e = .returned (.bool (decide (k < x.id))) ∧ Below w.heap.size w w' := by
  go_enter Try.func29, Try.ntmps29
  go_wp2
  go_ret
  exact ⟨rfl, (by repeat (first | (with_reducible exact (Below.refl _ _)) | (with_reducible refine Below.drew ?_) | (with_reducible refine below_drewN ?_ _) | (with_reducible refine Below.setCell ?_ ?_ _; rotate_left; (first | omega | (simp <;> omega))) | (with_reducible refine Below.alloc ?_ ?_ _; rotate_left; (first | omega | (simp <;> omega)))))⟩
theorem gt_le (id : Int) : ∀ l : List PO, gt id l ≤ l.length
  | [] => Nat.le_refl _
  | x :: l => by have := gt_le id l; simp only [gt, List.length_cons]; split <;> omega
theorem gt_idx (id : Int) : ∀ l : List Ob, (IdxGt.idx (fun x => decide (id < x.id)) l = -1 ∧ gt id (l.map Ob.po) = l.length) ∨ IdxGt.idx (fun x => decide (id < x.id)) l = gt id (l.map Ob.po)
  | [] => .inl ⟨rfl, rfl⟩
  | x :: l => by
    by_cases h : id < x.id
    · refine .inr ?_
      have h' : id < x.po.id := h
      simp [IdxGt.idx, gt, h, h']
    · have h' : ¬ id < x.po.id := h
      rcases gt_idx id l with ⟨h1, h2⟩ | h1
      · refine .inl ⟨by simp [IdxGt.idx, h, h1], by simp only [List.map_cons, gt, if_neg h', List.length_cons, h2]⟩
      · refine .inr ?_
        simp only [IdxGt.idx, h, h1, List.map_cons, gt, if_neg h']
        simp
        omega

set_option maxHeartbeats 4000000 in
theorem put_any (A : Option Addr) (n c : Nat) (l : List Ob) (o : Ob) (w : World) (hs : Hp w w.heap.size A n l) (ho : Sl w w.heap.size 2 Val.cells o.A o.n o.s) (hn : n ≤ 4398046510976) (hm : o.n ≤ 8796093021952) :
    Calls Try.prog 15 #[.agg #[.slice A n c], .agg #[.int .i64 o.id, .slice o.A o.n o.c]] w (GivesR w.heap.size (putO o.po (l.map Ob.po)) w) := by
  have HL := Lib.hid hs.sl.len
  have HOL := Lib.hid ho.len
  obtain ⟨w2, hw2⟩ : ∃ w2, w2 = ((w.alloc (.cells #[.slice A n c] 24)).alloc (.cells #[.int .i64 o.id, .slice o.A o.n o.c] 27)).alloc (.cells #[.slice none 0 0] 24) := ⟨_, rfl⟩
  have hb2 : Below w.heap.size w w2 := by rw [hw2]; exact (by repeat (first | (with_reducible exact (Below.refl _ _)) | (with_reducible refine Below.drew ?_) | (with_reducible refine below_drewN ?_ _) | (with_reducible refine Below.setCell ?_ ?_ _; rotate_left; (first | omega | (simp <;> omega))) | (with_reducible refine Below.alloc ?_ ?_ _; rotate_left; (first | omega | (simp <;> omega)))))
  have hz2 : w2.heap.size = w.heap.size + 3 := by rw [hw2]; simp
  have HA := Lib.hid (show w2.cell? ⟨w.heap.size, 0, none⟩ = some (.slice A n c) from by rw [hw2, cell_old _ _ _ _ (by simp <;> omega), cell_old _ _ _ _ (by simp), cell_new _ _ _ _ _ rfl]; rfl)
  have HB0 := Lib.hid (show w2.cell? ⟨w.heap.size + 1, 0, none⟩ = some (.int .i64 o.id) from by rw [hw2, cell_old _ _ _ _ (by simp), cell_new _ _ _ _ _ (by simp)]; rfl)
  have HB1 := Lib.hid (show w2.cell? ⟨w.heap.size + 1, 1, none⟩ = some (.slice o.A o.n o.c) from by rw [hw2, cell_old _ _ _ _ (by simp), cell_new _ _ _ _ _ (by simp)]; rfl)
  have HD := Lib.hid (show w2.cell? ⟨w.heap.size + 2, 0, none⟩ = some (.slice none 0 0) from by rw [hw2, cell_new _ _ _ _ _ (by simp)]; rfl)
  have HF := Lib.hid (show w2.frozen? ⟨w.heap.size + 2, 0, none⟩ = false from by rw [hw2, frozen_new _ _ _ _ _ (by simp)])
  have HS2 := Lib.hid (hs.up hb2)
  have HO2 := Lib.hid (ho.up hb2)
  clear hs ho
  go_enter Try.func15, Try.ntmps15
  go_wp2_with fail
  rw [← hw2]
  have HW := Lib.hid hw2
  clear hw2
  refine (all_any A n c l w2 HS2.out hn).mono ?_
  rintro e w3 ⟨A3, n3, c3, lo, l3, rfl, hpo, hn3, hlo, hown3, hb3⟩
  obtain rfl : n3 = n := by rw [hn3, List.length_map]; exact HL.out
  have hrb : ∀ k, (Value.slice A3 n3 c3).ownBlock = some k → w2.heap.size ≤ k ∧ k < w3.heap.size := fun k hk => own_block_lt hown3.out.row hk
  obtain ⟨W, hW⟩ : ∃ W, W = w3.alloc (.cells #[.slice A3 n3 c3] 24) := ⟨_, rfl⟩
  have hbW : Below w3.heap.size w3 W := by rw [hW]; exact (by repeat (first | (with_reducible exact (Below.refl _ _)) | (with_reducible refine Below.drew ?_) | (with_reducible refine below_drewN ?_ _) | (with_reducible refine Below.setCell ?_ ?_ _; rotate_left; (first | omega | (simp <;> omega))) | (with_reducible refine Below.alloc ?_ ?_ _; rotate_left; (first | omega | (simp <;> omega)))))
  have hzW : W.heap.size = w3.heap.size + 1 := by rw [hW]; simp
  have hz3 := hb3.size
  have hb2W : Below w2.heap.size w2 W := hb3.trans (hbW.mono hz3)
  have HCW := Lib.hid (show W.cell? ⟨w3.heap.size, 0, none⟩ = some (.slice A3 n3 c3) from by rw [hW, cell_new _ _ _ _ _ rfl]; rfl)
  have HFW := Lib.hid (show W.frozen? ⟨w3.heap.size, 0, none⟩ = false from by rw [hW, frozen_new _ _ _ _ _ rfl])
  have hbw : Below w.heap.size w W := hb2.trans (hb2W.mono hb2.size)
  have e0 : w3.cell? ⟨w.heap.size, 0, none⟩ = some (.slice A n3 c) := (belc hb3 (by omega)).trans HA.out
  have e1 : w3.cell? ⟨w.heap.size + 1, 0, none⟩ = some (.int .i64 o.id) := (belc hb3 (by omega)).trans HB0.out
  have q0 : w.heap.size < w3.heap.size := by omega
  have q1 : w.heap.size + 1 < w3.heap.size := by omega
  have HP := Lib.hid hpo
  have HN3 := Lib.hid hn3
  clear hpo hn3
  go_wp2_with fail
  rw [← hW]
  have HWW := Lib.hid hW
  clear hW
  refine (index_any A n3 c l o.id W (HS2.out.up hb2W).sl (by omega)).mono ?_
  rintro e w4 ⟨rfl, hb4⟩
  have hz4 := hb4.size
  have hb24 : Below w2.heap.size w2 w4 := hb2W.trans (hb4.mono hb2W.size)
  have hbw4 : Below w.heap.size w w4 := hbw.trans (hb4.mono hbw.size)
  have k1 : w4.cell? ⟨w.heap.size + 1, 0, none⟩ = some (.int .i64 o.id) := (belc hb24 (by omega)).trans HB0.out
  have k2 : w4.cell? ⟨w.heap.size + 1, 1, none⟩ = some (.slice o.A o.n o.c) := (belc hb24 (by omega)).trans HB1.out
  have k3 : w4.cell? ⟨w.heap.size + 2, 0, none⟩ = some (.slice none 0 0) := (belc hb24 (by omega)).trans HD.out
  have j3 : w4.frozen? ⟨w.heap.size + 2, 0, none⟩ = false := (belf hb24 (by omega)).trans HF.out
  have k4 : w4.cell? ⟨w3.heap.size, 0, none⟩ = some (.slice A3 n3 c3) := (belc hb4 (by omega)).trans HCW.out
  have j4 : w4.frozen? ⟨w3.heap.size, 0, none⟩ = false := (belf hb4 (by omega)).trans HFW.out
  have hb34 : Below w3.heap.size w3 w4 := hbW.trans (hb4.mono hbW.size)
  clear e0 e1
  rcases idx_cases o.id (l.map Ob.po) with ⟨hi, hno⟩ | ⟨i, x, hi, hx, hxid, hfst⟩
  · have HI := Lib.hid (show idxI o.id (l.map Ob.po) = -1 from by rw [idxI, hi])
    have HR := Lib.hid (show putO o.po (l.map Ob.po) = (l.map Ob.po).take (gt o.id (l.map Ob.po)) ++ [o.po] ++ (l.map Ob.po).drop (gt o.id (l.map Ob.po)) from by unfold putO; rw [show o.po.id = o.id from rfl, hi])
    clear hi hno
    rw [HI.out]
    go_wp2_with fail
    refine (IdxGt.any A3 n3 c3 l3 (fun x => decide (o.id < x.id)) (w.heap.size + 1) w4 ((hown3.out.hp.up hb34).sl) (by omega) (fun x _ w' hb' => gt_any x (w.heap.size + 1) o.id w' (by have := hb'.size; omega) ((belc hb' (by omega)).trans k1))).mono ?_
    rintro e w5 ⟨rfl, hb5⟩
    have hz5 := hb5.size
    have hb25 : Below w2.heap.size w2 w5 := hb24.trans (hb5.mono hb24.size)
    have hb35 : Below w3.heap.size w3 w5 := hb34.trans (hb5.mono hb34.size)
    have hbw5 : Below w.heap.size w w5 := hbw4.trans (hb5.mono hbw4.size)
    have m1 := (belc hb5 (b := w.heap.size + 1) (o := 0) (by omega)).trans k1
    have m2 := (belc hb5 (b := w.heap.size + 1) (o := 1) (by omega)).trans k2
    have m3 := (belc hb5 (b := w.heap.size + 2) (o := 0) (by omega)).trans k3
    have m4 := (belc hb5 (b := w3.heap.size) (o := 0) (by omega)).trans k4
    have n3' := (belf hb5 (b := w.heap.size + 2) (o := 0) (by omega)).trans j3
    have n4 := (belf hb5 (b := w3.heap.size) (o := 0) (by omega)).trans j4
    obtain ⟨q, hq, hqn, hcase⟩ : ∃ q : Nat, gt o.id (l.map Ob.po) = q ∧ q ≤ n3 ∧ ((IdxGt.idx (fun x => decide (o.id < x.id)) l3 = -1 ∧ q = n3) ∨ IdxGt.idx (fun x => decide (o.id < x.id)) l3 = q) := by
      refine ⟨_, rfl, by have := gt_le o.id (l.map Ob.po); rw [List.length_map, HL.out] at this; exact this, ?_⟩
      have := gt_idx o.id l3
      rw [HP.out, hown3.out.len] at this
      exact this
    have HQ := Lib.hid hq
    clear hq k1 k2 k3 k4 j3 j4
    rcases hcase with ⟨hc1, rfl⟩ | hc1
    · have HC1 := Lib.hid hc1
      clear hc1
      rw [HC1.out]
      go_wp2_with fail
      have O5 := Lib.hid (HO2.out.up (hb25.trans (Below.drew (Below.refl _ _))) : Sl w5.drew w5.drew.heap.size 2 Val.cells o.A o.n o.s)
      have R5 := Lib.hid (own_below hown3.out.row hb35)
      have l1 : w.heap.size + 1 < w5.heap.size := by omega
      have l3' : w3.heap.size < w5.heap.size := by omega
      go_region_law (first
        | (go_simp; go_at_call 24; refine (copied_any o w5.drew O5.out hm).mono ?_; rintro e Y ⟨A5, n5, c5, rfl, hown5, hn5, hbY⟩; have hbY : Below w5.heap.size w5 Y := (Below.drew (Below.refl _ _)).trans hbY; have hzY := hbY.size; have p4 := (belc hbY l3').trans m4; have p3 := (belc hbY (b := w.heap.size + 2) (o := 0) (by omega)).trans m3; have s4 := (belf hbY l3').trans n4; have s3 := (belf hbY (b := w.heap.size + 2) (o := 0) (by omega)).trans n3'; have l4 : w3.heap.size < Y.heap.size := (by omega); have RY := Lib.hid (own_below R5.out hbY); have HN5 := Lib.hid hn5; clear hn5)
        | (go_simp; go_at_call 30; refine (InsObj.any (.slice A3 q c3) q q (l3.flatMap Ob.cells) (Ob.cells ⟨o.id, A5, n5, c5, o.s⟩) w2.heap.size Y.heap.size _ (own_below RY.out ((by repeat (first | (with_reducible exact (Below.refl _ _)) | (with_reducible refine Below.drew ?_) | (with_reducible refine below_drewN ?_ _) | (with_reducible refine Below.setCell ?_ ?_ _; rotate_left; (first | omega | (simp <;> omega))) | (with_reducible refine Below.alloc ?_ ?_ _; rotate_left; (first | omega | (simp <;> omega))))))) (by omega) (by omega) (by simp; omega) rfl (heap_new _ _) (fun h => by have := (hrb _ h).2; omega) (by simp [Ob.cells, Value.oneCell']) (ob_one l3)).mono ?_; rintro e Z ⟨A6, c6, rfl, hown6, hgr6⟩; have hn3r : some w3.heap.size ≠ (Value.slice A3 q c3).ownBlock := (fun h => by have := (hrb _ h.symm).2; omega); have hn2r : some (w.heap.size + 2) ≠ (Value.slice A3 q c3).ownBlock := (fun h => by have := (hrb _ h.symm).1; omega); have z4 := ((gcell hgr6).1 w3.heap.size 0 (by simp; omega) hn3r).trans ((cell_old _ _ _ _ l4).trans p4); have y4 := ((gcell hgr6).2 w3.heap.size 0 (by simp; omega) hn3r).trans ((frozen_old _ _ _ _ l4).trans s4); have z3 := ((gcell hgr6).1 (w.heap.size + 2) 0 (by simp; omega) hn2r).trans ((cell_old _ _ _ _ (by omega)).trans p3); have y3 := ((gcell hgr6).2 (w.heap.size + 2) 0 (by simp; omega) hn2r).trans ((frozen_old _ _ _ _ (by omega)).trans s3)))
      all_goals
        go_wp2
        refine bodyPost_ret (v := .agg #[.slice A6 (q + 1) c6]) (by simp [results, Try.results15, go_sem, z3]) rfl ?_
        have hbY3 : Below w3.heap.size w3 Y := hb35.trans (hbY.mono hb35.size)
        have hown5' : Y.ownsRow w5.heap.size 29 2 (.slice A5 n5 c5) n5 (o.s.flatMap Val.cells) := hown5.out
        have hn5 : n5 = o.s.length := HN5.out
        have hTW : Below W.heap.size W (Y.alloc (.cells (Ob.cells ⟨o.id, A5, n5, c5, o.s⟩).toArray 27)) := ((hb4.trans (hb5.mono hz4)).trans (hbY.mono (by omega))).alloc (by omega) _
        have hkW : Z.heap[w3.heap.size]? = some (.cells #[.slice A3 q c3] 24 (0, 0)) := by
          rw [hgr6.block w3.heap.size (by simp; omega) hn3r, hTW.block w3.heap.size (by omega), HWW.out]
          exact heap_new _ _
        have hfin := put_fin (r := w.heap.size + 2) (u := .slice A6 (q + 1) c6) (v := .slice A6 (q + 1) c6) (y := ⟨o.id, A5, n5, c5, o.s⟩) hown3.out hbY3 (Sl.of_own Val.size hn5.symm hown5') (fun ad had => by have := own_lo hown5' (Nat.le_refl _) ad had; omega) (by show n5 ≤ 8796093021952; have := HOL.out; omega) ((Below.refl _ _).alloc (Nat.le_refl _) _) hgr6 (by omega) hown6 hkW (by omega) (by omega) hz3
        refine ⟨A6, q + 1, c6, _, rfl, ?_, ?_, Lib.hid hfin, Lib.hid ?_, ?_⟩
        · rw [ins_po, HP.out, HR.out, HQ.out]; rfl
        · have h1 := HL.out
          rw [HR.out, HQ.out]; simp; omega
        · have hf3 := hown3.out.fr (k := w.heap.size) (by omega) (by omega)
          refine ⟨fun ad had => by have := own_lo hown6 (Nat.le_refl _) ad had; omega, fun z hz h0 ad had => ?_⟩
          simp only [List.mem_append, List.mem_singleton] at hz
          rcases hz with (hz | rfl) | hz
          · exact hf3.2 z (List.mem_of_mem_take hz) h0 ad had
          · have := own_lo hown5' (Nat.le_refl _) ad had; omega
          · exact hf3.2 z (List.mem_of_mem_drop hz) h0 ad had
        · have hbT : Below w.heap.size w (Y.alloc (.cells (Ob.cells ⟨o.id, A5, n5, c5, o.s⟩).toArray 27)) := hbw.trans (hTW.mono hbw.size)
          exact ((hbT.grown hgr6 (by simp; omega) (fun k hk => by have := (hrb k hk).1; omega)).setCell (by show _ ≤ w3.heap.size; omega) _).setCell (by simp <;> omega) _
    · have HC1 := Lib.hid hc1
      clear hc1
      rw [HC1.out]
      have hq0 : ¬ (q : Int) < 0 := by omega
      go_wp2_with fail
      have O5 := Lib.hid (HO2.out.up (hb25.trans (Below.drew (Below.refl _ _))) : Sl w5.drew w5.drew.heap.size 2 Val.cells o.A o.n o.s)
      have R5 := Lib.hid (own_below hown3.out.row hb35)
      have l1 : w.heap.size + 1 < w5.heap.size := by omega
      have l3' : w3.heap.size < w5.heap.size := by omega
      go_region_law (first
        | (go_simp; go_at_call 24; refine (copied_any o w5.drew O5.out hm).mono ?_; rintro e Y ⟨A5, n5, c5, rfl, hown5, hn5, hbY⟩; have hbY : Below w5.heap.size w5 Y := (Below.drew (Below.refl _ _)).trans hbY; have hzY := hbY.size; have p4 := (belc hbY l3').trans m4; have p3 := (belc hbY (b := w.heap.size + 2) (o := 0) (by omega)).trans m3; have s4 := (belf hbY l3').trans n4; have s3 := (belf hbY (b := w.heap.size + 2) (o := 0) (by omega)).trans n3'; have l4 : w3.heap.size < Y.heap.size := (by omega); have RY := Lib.hid (own_below R5.out hbY); have HN5 := Lib.hid hn5; clear hn5)
        | (go_simp; go_at_call 30; refine (InsObj.any (.slice A3 n3 c3) n3 q (l3.flatMap Ob.cells) (Ob.cells ⟨o.id, A5, n5, c5, o.s⟩) w2.heap.size Y.heap.size _ (own_below RY.out ((by repeat (first | (with_reducible exact (Below.refl _ _)) | (with_reducible refine Below.drew ?_) | (with_reducible refine below_drewN ?_ _) | (with_reducible refine Below.setCell ?_ ?_ _; rotate_left; (first | omega | (simp <;> omega))) | (with_reducible refine Below.alloc ?_ ?_ _; rotate_left; (first | omega | (simp <;> omega))))))) (by omega) (by omega) (by simp; omega) rfl (heap_new _ _) (fun h => by have := (hrb _ h).2; omega) (by simp [Ob.cells, Value.oneCell']) (ob_one l3)).mono ?_; rintro e Z ⟨A6, c6, rfl, hown6, hgr6⟩; have hn3r : some w3.heap.size ≠ (Value.slice A3 n3 c3).ownBlock := (fun h => by have := (hrb _ h.symm).2; omega); have hn2r : some (w.heap.size + 2) ≠ (Value.slice A3 n3 c3).ownBlock := (fun h => by have := (hrb _ h.symm).1; omega); have z4 := ((gcell hgr6).1 w3.heap.size 0 (by simp; omega) hn3r).trans ((cell_old _ _ _ _ l4).trans p4); have y4 := ((gcell hgr6).2 w3.heap.size 0 (by simp; omega) hn3r).trans ((frozen_old _ _ _ _ l4).trans s4); have z3 := ((gcell hgr6).1 (w.heap.size + 2) 0 (by simp; omega) hn2r).trans ((cell_old _ _ _ _ (by omega)).trans p3); have y3 := ((gcell hgr6).2 (w.heap.size + 2) 0 (by simp; omega) hn2r).trans ((frozen_old _ _ _ _ (by omega)).trans s3)))
      all_goals
        go_wp2
        refine bodyPost_ret (v := .agg #[.slice A6 (n3 + 1) c6]) (by simp [results, Try.results15, go_sem, z3]) rfl ?_
        have hbY3 : Below w3.heap.size w3 Y := hb35.trans (hbY.mono hb35.size)
        have hown5' : Y.ownsRow w5.heap.size 29 2 (.slice A5 n5 c5) n5 (o.s.flatMap Val.cells) := hown5.out
        have hn5 : n5 = o.s.length := HN5.out
        have hTW : Below W.heap.size W (Y.alloc (.cells (Ob.cells ⟨o.id, A5, n5, c5, o.s⟩).toArray 27)) := ((hb4.trans (hb5.mono hz4)).trans (hbY.mono (by omega))).alloc (by omega) _
        have hkW : Z.heap[w3.heap.size]? = some (.cells #[.slice A3 n3 c3] 24 (0, 0)) := by
          rw [hgr6.block w3.heap.size (by simp; omega) hn3r, hTW.block w3.heap.size (by omega), HWW.out]
          exact heap_new _ _
        have hfin := put_fin (r := w.heap.size + 2) (u := .slice A6 (n3 + 1) c6) (v := .slice A6 (n3 + 1) c6) (y := ⟨o.id, A5, n5, c5, o.s⟩) hown3.out hbY3 (Sl.of_own Val.size hn5.symm hown5') (fun ad had => by have := own_lo hown5' (Nat.le_refl _) ad had; omega) (by show n5 ≤ 8796093021952; have := HOL.out; omega) ((Below.refl _ _).alloc (Nat.le_refl _) _) hgr6 (by omega) hown6 hkW (by omega) (by omega) hz3
        refine ⟨A6, n3 + 1, c6, _, rfl, ?_, ?_, Lib.hid hfin, Lib.hid ?_, ?_⟩
        · rw [ins_po, HP.out, HR.out, HQ.out]; rfl
        · have h1 := HL.out
          rw [HR.out, HQ.out]; simp; omega
        · have hf3 := hown3.out.fr (k := w.heap.size) (by omega) (by omega)
          refine ⟨fun ad had => by have := own_lo hown6 (Nat.le_refl _) ad had; omega, fun z hz h0 ad had => ?_⟩
          simp only [List.mem_append, List.mem_singleton] at hz
          rcases hz with (hz | rfl) | hz
          · exact hf3.2 z (List.mem_of_mem_take hz) h0 ad had
          · have := own_lo hown5' (Nat.le_refl _) ad had; omega
          · exact hf3.2 z (List.mem_of_mem_drop hz) h0 ad had
        · have hbT : Below w.heap.size w (Y.alloc (.cells (Ob.cells ⟨o.id, A5, n5, c5, o.s⟩).toArray 27)) := hbw.trans (hTW.mono hbw.size)
          exact ((hbT.grown hgr6 (by simp; omega) (fun k hk => by have := (hrb k hk).1; omega)).setCell (by show _ ≤ w3.heap.size; omega) _).setCell (by simp <;> omega) _
  · have HI := Lib.hid (show idxI o.id (l.map Ob.po) = i from by rw [idxI, hi])
    have hin : i < n3 := by have := (List.getElem?_eq_some_iff.1 hx).1; rw [List.length_map, HL.out] at this; exact this
    have HR := Lib.hid (show putO o.po (l.map Ob.po) = (l.map Ob.po).set i o.po from by unfold putO; rw [show o.po.id = o.id from rfl, hi])
    have hi0 : (0 : Int) ≤ (i : Int) := by omega
    have hinI : (i : Int) < (n3 : Int) := by omega
    obtain ⟨g, rfl, hg0, hg1, hfz⟩ := own_at0 hown3.out.row (by omega)
    have hrs := Sl.of_own Ob.size hown3.out.len hown3.out.row
    obtain ⟨y3, hy3⟩ : ∃ y, l3[i]? = some y := ⟨_, List.getElem?_eq_getElem (by rw [hown3.out.len]; exact hin)⟩
    have v0 : w4.cell? ⟨g, i * 2, none⟩ = some (.int .i64 y3.id) := (belc hb34 hg1).trans (by have := sl_at hrs hy3 (j := 0) rfl; rwa [Nat.zero_add] at this)
    have v1 : w4.cell? ⟨g, i * 2 + 1, none⟩ = some (.slice y3.A y3.n y3.c) := (belc hb34 hg1).trans (by have := sl_at hrs hy3 (j := 1) rfl; rwa [Nat.zero_add] at this)
    have u0 : w4.frozen? ⟨g, i * 2, none⟩ = false := (belf hb34 hg1).trans (hfz _)
    have u1 : w4.frozen? ⟨g, i * 2 + 1, none⟩ = false := (belf hb34 hg1).trans (hfz _)
    have O4 := Lib.hid (HO2.out.up (hb24.trans (Below.drew (Below.refl _ _))) : Sl w4.drew w4.drew.heap.size 2 Val.cells o.A o.n o.s)
    have l1 : w.heap.size + 1 < w4.heap.size := by omega
    have l2 : w.heap.size + 2 < w4.heap.size := by omega
    have l3' : w3.heap.size < w4.heap.size := by omega
    have l4 : g < w4.heap.size := by omega
    have hne1 : w3.heap.size ≠ g := by omega
    have hne2 : w.heap.size + 1 ≠ g := by omega
    have hne3 : w.heap.size + 2 ≠ g := by omega
    clear hi hx hxid hfst hfz hrs hy3
    rw [HI.out]
    go_wp2_with fail
    go_region_held3 (fun w' => w'.cell? ⟨w3.heap.size, 0, none⟩ = some (.slice (some ⟨g, 0, none⟩) n3 c3) ∧ w'.cell? ⟨w.heap.size + 1, 0, none⟩ = some (.int .i64 o.id) ∧ w'.cell? ⟨w.heap.size + 1, 1, none⟩ = some (.slice o.A o.n o.c))
      (first | exact ⟨k4, k1, k2⟩ | exact ⟨p1, p2, p3⟩ | exact ⟨by rw [set_other _ _ _ _ (by simp), set_other _ _ _ _ (by simp)]; exact p1, by rw [set_other _ _ _ _ (by simp), set_other _ _ _ _ (by simp)]; exact p2, by rw [set_other _ _ _ _ (by simp), set_other _ _ _ _ (by simp)]; exact p3⟩)
      (first
        | (go_at_call 24; refine (copied_any o w4.drew O4.out hm).mono ?_; rintro e Y ⟨A5, n5, c5, rfl, hown5, hn5, hb5⟩; have hb5 : Below w4.heap.size w4 Y := (Below.drew (Below.refl _ _)).trans hb5; have p1 := (belc hb5 l3').trans k4; have p2 := (belc hb5 l1).trans k1; have p3 := (belc hb5 l1).trans k2; have q0 := (belc hb5 l4).trans v0; have q1 := (belc hb5 l4).trans v1; have r0 := (belf hb5 l4).trans u0; have r1 := (belf hb5 l4).trans u1; have s3 := (belc hb5 l2).trans k3; have t3 := (belf hb5 l2).trans j3; have HN5 := Lib.hid hn5; clear hn5))
    all_goals
      go_wp2
      refine bodyPost_ret (v := .agg #[.slice (some ⟨g, 0, none⟩) n3 c3]) (by simp [results, Try.results15, go_sem, s3]) rfl ?_
      have hbY3 : Below w3.heap.size w3 Y := hb34.trans (hb5.mono hb34.size)
      have hown5' : Y.ownsRow w4.heap.size 29 2 (.slice A5 n5 c5) n5 (o.s.flatMap Val.cells) := hown5.out
      have hn5 : n5 = o.s.length := HN5.out
      have hfin := set_fin (r := w.heap.size + 2) (u := .int .i64 o.id) (v := .slice A5 n5 c5) (x := .slice (some ⟨g, 0, none⟩) n3 c3) (y := ⟨o.id, A5, n5, c5, o.s⟩) hown3.out hbY3 (Sl.of_own Val.size hn5.symm hown5') (fun ad had => by have := own_lo hown5' (Nat.le_refl _) ad had; omega) (by show n5 ≤ 8796093021952; have := HOL.out; omega) hin rfl (by omega) (by omega) hz3 hg0 hg1
      refine ⟨_, n3, c3, _, rfl, ?_, ?_, Lib.hid hfin, Lib.hid ?_, ?_⟩
      · rw [List.map_set, HP.out, HR.out]; rfl
      · rw [HR.out, List.length_set, List.length_map]; exact HL.out.symm
      · have hf3 := hown3.out.fr (k := w.heap.size) (by omega) (by omega)
        refine ⟨hf3.1, fun z hz h0 ad had => ?_⟩
        rcases List.mem_or_eq_of_mem_set hz with hz | rfl
        · exact hf3.2 z hz h0 ad had
        · have := own_lo hown5' (Nat.le_refl _) ad had; omega
      · exact (((hbw4.trans (hb5.mono hbw4.size)).setCell (by show _ ≤ g; omega) _).setCell (by show _ ≤ g; omega) _).setCell (by simp <;> omega) _
end Go.Proofs.Ytohflngcgmcllaa
