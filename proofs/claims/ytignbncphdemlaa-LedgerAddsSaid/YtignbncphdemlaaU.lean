/- The reference's Totals. -/
import Derived.Test.YtignbncphdemlaaK
namespace Go.Proofs.Ytignbncphdemlaa
open Go.RowKit
set_option maxHeartbeats 1000000 in
theorem reftotals_any (A : Option Addr) (n c : Nat) (l : List Acc) (w : World) (hs : Sl w w.heap.size 8 Acc.cells A n l) (hn : n ≤ 1000000) (hok : Ok 1000000 l) :
    Calls Try.prog 27 #[.slice A n c] w fun e w' => e = .returned (totF l).value ∧ Below w.heap.size w w' := by
  have HL := Lib.hid hs.len
  have HOK := Lib.hid hok
  have HSA := Lib.hid hs
  clear hok hs
  go_enter Try.func27, Try.ntmps27
  go_wp2_with fail
  go_loopw [4] (fun i wr => ∃ (k : Nat) (S : Acc), k ≤ n ∧ i = .int .i64 k ∧ Hid (At wr (w.heap.size + 1) S) ∧ Hid (∀ j, j < 8 → S j = totF (l.take k) j) ∧ Below w.heap.size w wr ∧ w.heap.size + 2 ≤ wr.heap.size ∧ Hid (∀ j, wr.frozen? ⟨w.heap.size + 1, j, none⟩ = false) ∧ Hid (∀ j, j < 8 → wr.cell? ⟨w.heap.size, j, none⟩ = some (.int .i64 0)) ∧ Hid (∀ j, wr.frozen? ⟨w.heap.size, j, none⟩ = false)) (fun i _ => n - (intOf i).toNat)
  case atStart =>
    refine ⟨0, zero, Nat.zero_le _, rfl, Lib.hid (At.mk' (fun j u hu => ?_)), Lib.hid (fun j hj => rfl), (by repeat (first | (with_reducible exact (Below.refl _ _)) | (with_reducible refine Below.drew ?_) | (with_reducible refine below_drewN ?_ _) | (with_reducible refine Below.setCell ?_ ?_ _; rotate_left; (first | omega | (simp <;> omega))) | (with_reducible refine Below.alloc ?_ ?_ _; rotate_left; (first | omega | (simp <;> omega))))), by simp, Lib.hid (fun j => by simp), Lib.hid (fun j hj => ?_), Lib.hid (fun j => ?_)⟩
    · rw [cell_new _ _ _ _ _ (by simp), ← Array.getElem?_toList]; exact hu
    · rw [cell_old _ _ _ _ (by simp), cell_new _ _ _ _ _ rfl, ← Array.getElem?_toList]; exact Acc.at_ zero j hj
    · rw [frozen_old _ _ _ _ (by simp), frozen_new _ _ _ _ _ rfl]
  case round =>
    obtain ⟨k, S, hk, rfl, hS, hT, hb, hz, hf, hr0, hr0f⟩ := hrel
    rename World => wo
    have hzz := hb.size
    have hT0 := hS.out 0 (by omega)
    have hT7 := hS.out 7 (by omega)
    have hf0 := hf.out 0
    have hf7 := hf.out 7
    obtain ⟨s00, s01⟩ := totF_bnd HOK.out (by omega) 0 (by omega) k
    obtain ⟨s70, s71⟩ := totF_bnd HOK.out (by omega) 7 (by omega) k
    have hkn : (k : Int) ≤ 1000000 := by omega
    rw [← hT.out 0 (by omega)] at s00 s01
    rw [← hT.out 7 (by omega)] at s70 s71
    by_cases hlt : k < n
    · obtain ⟨a, ha⟩ : ∃ a, l[k]? = some a := ⟨_, List.getElem?_eq_getElem (by rw [HL.out]; exact hlt)⟩
      obtain ⟨sb, so, rfl, hlo, hat⟩ := HSA.out.at_ (by omega)
      have d0 : wo.cell? ⟨sb, so + k * 8, none⟩ = some (.int .i64 (a 0)) := (belc hb hlo).trans (hat k a ha 0 _ rfl)
      have d1 : wo.cell? ⟨sb, so + k * 8 + 1, none⟩ = some (.int .i64 (a 1)) := (belc hb hlo).trans (hat k a ha 1 _ rfl)
      have d2 : wo.cell? ⟨sb, so + k * 8 + 2, none⟩ = some (.int .i64 (a 2)) := (belc hb hlo).trans (hat k a ha 2 _ rfl)
      have d3 : wo.cell? ⟨sb, so + k * 8 + 3, none⟩ = some (.int .i64 (a 3)) := (belc hb hlo).trans (hat k a ha 3 _ rfl)
      have d4 : wo.cell? ⟨sb, so + k * 8 + 4, none⟩ = some (.int .i64 (a 4)) := (belc hb hlo).trans (hat k a ha 4 _ rfl)
      have d5 : wo.cell? ⟨sb, so + k * 8 + 5, none⟩ = some (.int .i64 (a 5)) := (belc hb hlo).trans (hat k a ha 5 _ rfl)
      have d6 : wo.cell? ⟨sb, so + k * 8 + 6, none⟩ = some (.int .i64 (a 6)) := (belc hb hlo).trans (hat k a ha 6 _ rfl)
      have d7 : wo.cell? ⟨sb, so + k * 8 + 7, none⟩ = some (.int .i64 (a 7)) := (belc hb hlo).trans (hat k a ha 7 _ rfl)
      obtain ⟨a00, a01⟩ := HOK.out.at_ ha 0 (by omega)
      obtain ⟨a70, a71⟩ := HOK.out.at_ ha 7 (by omega)
      have hne : w.heap.size + 1 < wo.heap.size := by omega
      have HA := Lib.hid ha
      have HAT := Lib.hid (hat k a ha)
      have s02 : S 0 ≤ 1000000000000 := by omega
      have s72 : S 7 ≤ 1000000000000 := by omega
      clear ha hat s01 s71
      go_wp2
      go_region
      go_wp2
      go_region
      go_wp2
      go_loopw [5] (fun idx wr => ∃ (i : Nat) (S2 : Acc), i ≤ 6 ∧ idx = .int .i64 i ∧ Hid (At wr (w.heap.size + 1) S2) ∧ Hid (Part l k i S2) ∧ Below w.heap.size w wr ∧ w.heap.size + 2 ≤ wr.heap.size ∧ Hid (∀ j, wr.frozen? ⟨w.heap.size + 1, j, none⟩ = false) ∧ Hid (∀ j, j < 8 → wr.cell? ⟨w.heap.size, j, none⟩ = some (.int .i64 0)) ∧ Hid (∀ j, wr.frozen? ⟨w.heap.size, j, none⟩ = false)) (fun idx _ => 6 - (intOf idx).toNat)
      case atStart =>
        exact ⟨0, _, by omega, rfl, Lib.hid ((hS.out.set (f := 0) (by omega) _).set (f := 7) (by omega) _), Lib.hid (Part.first hT.out HA.out), (by repeat (first | (with_reducible exact hb) | (with_reducible refine Below.drew ?_) | (with_reducible refine below_drewN ?_ _) | (with_reducible refine Below.setCell ?_ ?_ _; rotate_left; (first | omega | (simp <;> omega))) | (with_reducible refine Below.alloc ?_ ?_ _; rotate_left; (first | omega | (simp <;> omega))))), by show _ ≤ (World.setCell _ _ _).heap.size; simp; omega, Lib.hid (fun j => (World.frozen?_setCell _ _ _ _).trans ((World.frozen?_setCell _ _ _ _).trans (hf.out j))), Lib.hid (fun j hj => (set_other _ _ _ _ (by intro e; injection e with e1 e2; omega)).trans ((set_other _ _ _ _ (by intro e; injection e with e1 e2; omega)).trans (hr0.out j hj))), Lib.hid (fun j => (World.frozen?_setCell _ _ _ _).trans ((World.frozen?_setCell _ _ _ _).trans (hr0f.out j)))⟩
      case round =>
        obtain ⟨i, S2, hi, rfl, hS2, hP, hb2, hz2, hf2, hr2, hr2f⟩ := hrel
        match i, hi with
        | 0, _ =>
          have hc := hS2.out 1 (by omega)
          have hcf := hf2.out 1
          have dq : wr.cell? ⟨sb, so + k * 8 + 1, none⟩ = some (.int .i64 (a 1)) := (belc hb2 hlo).trans (HAT.out 1 _ rfl)
          obtain ⟨b0, b1⟩ := HOK.out.at_ HA.out 1 (by omega)
          obtain ⟨v0, v1⟩ := totF_bnd HOK.out (by omega) 1 (by omega) k
          rw [← hP.out.2 1 (by omega) (by omega) (by omega)] at v0 v1
          have v2 : S2 1 ≤ 1000000000000 := by omega
          have hnew : w.heap.size + 1 < wr.heap.size := by omega
          clear v1
          go_wp2
          go_region
          go_wp2
          all_goals
            refine ⟨⟨1, _, by omega, rfl, Lib.hid (hS2.out.set (f := 1) (by omega) _), Lib.hid (hP.out.next (by omega) HA.out), (by repeat (first | (with_reducible exact hb2) | (with_reducible refine Below.drew ?_) | (with_reducible refine below_drewN ?_ _) | (with_reducible refine Below.setCell ?_ ?_ _; rotate_left; (first | omega | (simp <;> omega))) | (with_reducible refine Below.alloc ?_ ?_ _; rotate_left; (first | omega | (simp <;> omega))))), by show _ ≤ (World.setCell _ _ _).heap.size; simp; omega, Lib.hid (fun j => (World.frozen?_setCell _ _ _ _).trans (hf2.out j)), Lib.hid (fun j hj => (set_other _ _ _ _ (by intro e; injection e with e1 e2; omega)).trans (hr2.out j hj)), Lib.hid (fun j => (World.frozen?_setCell _ _ _ _).trans (hr2f.out j))⟩, by simp [intOf]⟩
        | 1, _ =>
          have hc := hS2.out 2 (by omega)
          have hcf := hf2.out 2
          have dq : wr.cell? ⟨sb, so + k * 8 + 2, none⟩ = some (.int .i64 (a 2)) := (belc hb2 hlo).trans (HAT.out 2 _ rfl)
          obtain ⟨b0, b1⟩ := HOK.out.at_ HA.out 2 (by omega)
          obtain ⟨v0, v1⟩ := totF_bnd HOK.out (by omega) 2 (by omega) k
          rw [← hP.out.2 2 (by omega) (by omega) (by omega)] at v0 v1
          have v2 : S2 2 ≤ 1000000000000 := by omega
          have hnew : w.heap.size + 1 < wr.heap.size := by omega
          clear v1
          go_wp2
          go_region
          go_wp2
          all_goals
            refine ⟨⟨2, _, by omega, rfl, Lib.hid (hS2.out.set (f := 2) (by omega) _), Lib.hid (hP.out.next (by omega) HA.out), (by repeat (first | (with_reducible exact hb2) | (with_reducible refine Below.drew ?_) | (with_reducible refine below_drewN ?_ _) | (with_reducible refine Below.setCell ?_ ?_ _; rotate_left; (first | omega | (simp <;> omega))) | (with_reducible refine Below.alloc ?_ ?_ _; rotate_left; (first | omega | (simp <;> omega))))), by show _ ≤ (World.setCell _ _ _).heap.size; simp; omega, Lib.hid (fun j => (World.frozen?_setCell _ _ _ _).trans (hf2.out j)), Lib.hid (fun j hj => (set_other _ _ _ _ (by intro e; injection e with e1 e2; omega)).trans (hr2.out j hj)), Lib.hid (fun j => (World.frozen?_setCell _ _ _ _).trans (hr2f.out j))⟩, by simp [intOf]⟩
        | 2, _ =>
          have hc := hS2.out 3 (by omega)
          have hcf := hf2.out 3
          have dq : wr.cell? ⟨sb, so + k * 8 + 3, none⟩ = some (.int .i64 (a 3)) := (belc hb2 hlo).trans (HAT.out 3 _ rfl)
          obtain ⟨b0, b1⟩ := HOK.out.at_ HA.out 3 (by omega)
          obtain ⟨v0, v1⟩ := totF_bnd HOK.out (by omega) 3 (by omega) k
          rw [← hP.out.2 3 (by omega) (by omega) (by omega)] at v0 v1
          have v2 : S2 3 ≤ 1000000000000 := by omega
          have hnew : w.heap.size + 1 < wr.heap.size := by omega
          clear v1
          go_wp2
          go_region
          go_wp2
          all_goals
            refine ⟨⟨3, _, by omega, rfl, Lib.hid (hS2.out.set (f := 3) (by omega) _), Lib.hid (hP.out.next (by omega) HA.out), (by repeat (first | (with_reducible exact hb2) | (with_reducible refine Below.drew ?_) | (with_reducible refine below_drewN ?_ _) | (with_reducible refine Below.setCell ?_ ?_ _; rotate_left; (first | omega | (simp <;> omega))) | (with_reducible refine Below.alloc ?_ ?_ _; rotate_left; (first | omega | (simp <;> omega))))), by show _ ≤ (World.setCell _ _ _).heap.size; simp; omega, Lib.hid (fun j => (World.frozen?_setCell _ _ _ _).trans (hf2.out j)), Lib.hid (fun j hj => (set_other _ _ _ _ (by intro e; injection e with e1 e2; omega)).trans (hr2.out j hj)), Lib.hid (fun j => (World.frozen?_setCell _ _ _ _).trans (hr2f.out j))⟩, by simp [intOf]⟩
        | 3, _ =>
          have hc := hS2.out 4 (by omega)
          have hcf := hf2.out 4
          have dq : wr.cell? ⟨sb, so + k * 8 + 4, none⟩ = some (.int .i64 (a 4)) := (belc hb2 hlo).trans (HAT.out 4 _ rfl)
          obtain ⟨b0, b1⟩ := HOK.out.at_ HA.out 4 (by omega)
          obtain ⟨v0, v1⟩ := totF_bnd HOK.out (by omega) 4 (by omega) k
          rw [← hP.out.2 4 (by omega) (by omega) (by omega)] at v0 v1
          have v2 : S2 4 ≤ 1000000000000 := by omega
          have hnew : w.heap.size + 1 < wr.heap.size := by omega
          clear v1
          go_wp2
          go_region
          go_wp2
          all_goals
            refine ⟨⟨4, _, by omega, rfl, Lib.hid (hS2.out.set (f := 4) (by omega) _), Lib.hid (hP.out.next (by omega) HA.out), (by repeat (first | (with_reducible exact hb2) | (with_reducible refine Below.drew ?_) | (with_reducible refine below_drewN ?_ _) | (with_reducible refine Below.setCell ?_ ?_ _; rotate_left; (first | omega | (simp <;> omega))) | (with_reducible refine Below.alloc ?_ ?_ _; rotate_left; (first | omega | (simp <;> omega))))), by show _ ≤ (World.setCell _ _ _).heap.size; simp; omega, Lib.hid (fun j => (World.frozen?_setCell _ _ _ _).trans (hf2.out j)), Lib.hid (fun j hj => (set_other _ _ _ _ (by intro e; injection e with e1 e2; omega)).trans (hr2.out j hj)), Lib.hid (fun j => (World.frozen?_setCell _ _ _ _).trans (hr2f.out j))⟩, by simp [intOf]⟩
        | 4, _ =>
          have hc := hS2.out 5 (by omega)
          have hcf := hf2.out 5
          have dq : wr.cell? ⟨sb, so + k * 8 + 5, none⟩ = some (.int .i64 (a 5)) := (belc hb2 hlo).trans (HAT.out 5 _ rfl)
          obtain ⟨b0, b1⟩ := HOK.out.at_ HA.out 5 (by omega)
          obtain ⟨v0, v1⟩ := totF_bnd HOK.out (by omega) 5 (by omega) k
          rw [← hP.out.2 5 (by omega) (by omega) (by omega)] at v0 v1
          have v2 : S2 5 ≤ 1000000000000 := by omega
          have hnew : w.heap.size + 1 < wr.heap.size := by omega
          clear v1
          go_wp2
          go_region
          go_wp2
          all_goals
            refine ⟨⟨5, _, by omega, rfl, Lib.hid (hS2.out.set (f := 5) (by omega) _), Lib.hid (hP.out.next (by omega) HA.out), (by repeat (first | (with_reducible exact hb2) | (with_reducible refine Below.drew ?_) | (with_reducible refine below_drewN ?_ _) | (with_reducible refine Below.setCell ?_ ?_ _; rotate_left; (first | omega | (simp <;> omega))) | (with_reducible refine Below.alloc ?_ ?_ _; rotate_left; (first | omega | (simp <;> omega))))), by show _ ≤ (World.setCell _ _ _).heap.size; simp; omega, Lib.hid (fun j => (World.frozen?_setCell _ _ _ _).trans (hf2.out j)), Lib.hid (fun j hj => (set_other _ _ _ _ (by intro e; injection e with e1 e2; omega)).trans (hr2.out j hj)), Lib.hid (fun j => (World.frozen?_setCell _ _ _ _).trans (hr2f.out j))⟩, by simp [intOf]⟩
        | 5, _ =>
          have hc := hS2.out 6 (by omega)
          have hcf := hf2.out 6
          have dq : wr.cell? ⟨sb, so + k * 8 + 6, none⟩ = some (.int .i64 (a 6)) := (belc hb2 hlo).trans (HAT.out 6 _ rfl)
          obtain ⟨b0, b1⟩ := HOK.out.at_ HA.out 6 (by omega)
          obtain ⟨v0, v1⟩ := totF_bnd HOK.out (by omega) 6 (by omega) k
          rw [← hP.out.2 6 (by omega) (by omega) (by omega)] at v0 v1
          have v2 : S2 6 ≤ 1000000000000 := by omega
          have hnew : w.heap.size + 1 < wr.heap.size := by omega
          clear v1
          go_wp2
          go_region
          go_wp2
          all_goals
            refine ⟨⟨6, _, by omega, rfl, Lib.hid (hS2.out.set (f := 6) (by omega) _), Lib.hid (hP.out.next (by omega) HA.out), (by repeat (first | (with_reducible exact hb2) | (with_reducible refine Below.drew ?_) | (with_reducible refine below_drewN ?_ _) | (with_reducible refine Below.setCell ?_ ?_ _; rotate_left; (first | omega | (simp <;> omega))) | (with_reducible refine Below.alloc ?_ ?_ _; rotate_left; (first | omega | (simp <;> omega))))), by show _ ≤ (World.setCell _ _ _).heap.size; simp; omega, Lib.hid (fun j => (World.frozen?_setCell _ _ _ _).trans (hf2.out j)), Lib.hid (fun j hj => (set_other _ _ _ _ (by intro e; injection e with e1 e2; omega)).trans (hr2.out j hj)), Lib.hid (fun j => (World.frozen?_setCell _ _ _ _).trans (hr2f.out j))⟩, by simp [intOf]⟩
        | 6, _ =>
          go_wp2
          go_roundw
          case rel => exact ⟨k + 1, S2, by omega, by go_num, hS2, Lib.hid hP.out.all, hb2, hz2, hf2, hr2, hr2f⟩
          case measure => simp [intOf]; omega
        | i + 7, h => exact absurd h (by omega)
    · obtain rfl : k = n := by omega
      have hE := value_congr (a := S) (b := totF l) (fun j hj => by rw [hT.out j hj, List.take_of_length_le (by rw [HL.out]; exact Nat.le_refl _)])
      have e0 := hS.out 0 (by omega)
      have e1 := hS.out 1 (by omega)
      have e2 := hS.out 2 (by omega)
      have e3 := hS.out 3 (by omega)
      have e4 := hS.out 4 (by omega)
      have e5 := hS.out 5 (by omega)
      have e6 := hS.out 6 (by omega)
      have e7 := hS.out 7 (by omega)
      have g0 := hr0.out 0 (by omega)
      have g1 := hr0.out 1 (by omega)
      have g2 := hr0.out 2 (by omega)
      have g3 := hr0.out 3 (by omega)
      have g4 := hr0.out 4 (by omega)
      have g5 := hr0.out 5 (by omega)
      have g6 := hr0.out 6 (by omega)
      have g7 := hr0.out 7 (by omega)
      have k0 := hr0f.out 0
      have k1 := hr0f.out 1
      have k2 := hr0f.out 2
      have k3 := hr0f.out 3
      have k4 := hr0f.out 4
      have k5 := hr0f.out 5
      have k6 := hr0f.out 6
      have k7 := hr0f.out 7
      have HE := Lib.hid hE
      clear hE
      go_wp2
      refine bodyPost_ret (v := S.value) (by simp [results, Try.results27, go_sem, Acc.value, g0, g1, g2, g3, g4, g5, g6, g7]) rfl ⟨by rw [HE.out], (by repeat (first | (with_reducible exact hb) | (with_reducible refine Below.drew ?_) | (with_reducible refine below_drewN ?_ _) | (with_reducible refine Below.setCell ?_ ?_ _; rotate_left; (first | omega | (simp <;> omega))) | (with_reducible refine Below.alloc ?_ ?_ _; rotate_left; (first | omega | (simp <;> omega)))))⟩
end Go.Proofs.Ytignbncphdemlaa
