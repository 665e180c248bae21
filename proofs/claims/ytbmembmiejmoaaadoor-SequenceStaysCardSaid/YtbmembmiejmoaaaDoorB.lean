/- Train. -/
import Derived.Test.YtbmembmiejmoaaaDoorA
import Derived.Test.YtbmembmiejmoaaaDoorKit2
import Derived.Test.YtbmembmiejmoaaaDoorIns
import Derived.Test.YtbmembmiejmoaaaDoorClone
namespace Go.Proofs.YtbmembmiejmoaaaDoor
open Go.RowKit

/-- What a call leaves that gives a predictor of these tracks. -/
def Gives (ts' : List Trk) (w : World) (e : Ending) (w' : World) : Prop := ∃ A' n' c', e = .returned (.agg #[.slice A' n' c']) ∧ Sl w' w'.heap.size 3 Trk.cells A' n' ts' ∧ Below w.heap.size w w' ∧ (∀ ad, A' = some ad → w.heap.size ≤ ad.block)
theorem one_cells (ts : List Trk) : ∀ u ∈ ts.flatMap Trk.cells, u.oneCell' = true := by
  intro u hu
  obtain ⟨t, _, ht⟩ := List.mem_flatMap.1 hu
  simp [Trk.cells] at ht
  rcases ht with rfl | rfl | rfl <;> rfl

set_option maxHeartbeats 1000000 in
theorem train_new (A : Option Addr) (n c : Nat) (ts : List Trk) (key : Int) (v : Int) (w : World) (hs : Sl w w.heap.size 3 Trk.cells A n ts) (hn : n ≤ 900000) (hsort : Sorted ts) (hh : hit ts key = false) :
    Calls Tryd.prog 8 #[.agg #[.slice A n c], .int .i64 key, .int .i64 v] w (Gives (train ts key v) w) := by
  have HS := Lib.hid hsort
  have HH := Lib.hid hh
  clear hsort hh
  go_enter Tryd.func8, Tryd.ntmps8
  go_wp2_with fail
  obtain ⟨W, hW⟩ : ∃ W, W = (w.alloc (.cells #[.slice A n c] 26)).alloc (.cells #[.slice none 0 0] 26) := ⟨_, rfl⟩
  rw [← hW]
  have hWb : Below w.heap.size w W := by rw [hW]; exact (by repeat (first | (with_reducible exact (Below.refl _ _)) | (with_reducible refine Below.drew ?_) | (with_reducible refine below_drewN ?_ _) | (with_reducible refine Below.setCell ?_ ?_ _; rotate_left; (first | omega | (simp <;> omega))) | (with_reducible refine Below.alloc ?_ ?_ _; rotate_left; (first | omega | (simp <;> omega)))))
  have hWz : W.heap.size = w.heap.size + 2 := by rw [hW]; simp
  have hsW := (hs.below hWb).mono (B' := W.heap.size) (by omega)
  refine (CloneTrk.any A n c (ts.flatMap Trk.cells) W (hsW.src Trk.size).1 (hsW.src Trk.size).2 (by rw [flat_len Trk.size, hs.len]) (by omega) (one_cells ts)).mono ?_
  rintro e w1 ⟨A1, c1, rfl, hown, hb1⟩
  have hz1 := hb1.size
  have q0 : W.cell? ⟨w.heap.size, 0, none⟩ = some (.slice A n c) := (by rw [hW, cell_old _ _ _ _ (by simp <;> omega), cell_new _ _ _ _ _ (by simp <;> omega)]; rfl)
  have q3 : W.cell? ⟨w.heap.size + 1, 0, none⟩ = some (.slice none 0 0) := (by rw [hW, cell_new _ _ _ _ _ (by simp <;> omega)]; rfl)
  have q4 : W.frozen? ⟨w.heap.size + 1, 0, none⟩ = false := (by rw [hW, frozen_new _ _ _ _ _ (by simp <;> omega)])
  have d0 := (hb1.cell (p := ⟨w.heap.size, 0, none⟩) (by simp; omega)).trans q0
  have d3 := (hb1.cell (p := ⟨w.heap.size + 1, 0, none⟩) (by simp; omega)).trans q3
  have d4 := (hb1.frozen (p := ⟨w.heap.size + 1, 0, none⟩) (by simp; omega)).trans q4
  have hlt0 : w.heap.size < w1.heap.size := by omega
  have hlt2 : w.heap.size + 1 < w1.heap.size := by omega
  have HW := Lib.hid hW
  have HZ := Lib.hid hWz
  clear hW hWz
  go_wp2_with fail
  refine (find_any A1 n c1 ts key _ ((Sl.of_own Trk.size hs.len (hown.alloc _))) HS.out (by omega)).mono ?_
  rintro e w2 ⟨rfl, hb2⟩
  obtain ⟨hc2, hf2⟩ := bcell hb2
  have hz2 := hb2.size
  simp only [World.size_alloc] at hz2
  have hm0 : w.heap.size < w2.heap.size := by omega
  have hm2 : w.heap.size + 1 < w2.heap.size := by omega
  have hm3 : w1.heap.size < w2.heap.size := by omega
  rw [HH.out]
  go_wp2_with fail
  have hown2 := own_below (hown.alloc (.cells #[.slice A1 n c1] 26)) hb2
  have hbk : ∀ k, (Value.slice A1 n c1).ownBlock = some k → w.heap.size + 2 ≤ k ∧ k < w1.heap.size := fun k hk => by have := hown.lt k hk; have := HZ.out; omega
  have hle := lowb_le ts key
  rw [hs.len] at hle
  refine (InsTrk.any (.slice A1 n c1) n (lowb ts key) (ts.flatMap Trk.cells) (Trk.cells ⟨key, v, 1⟩) W.heap.size w2.heap.size _ (hown2.alloc _) hle (by omega) (by simp; omega) rfl (heap_alloc_new w2 _) (fun e => by have := hbk _ e; omega) (by simp [Trk.cells, Value.oneCell']) (one_cells ts)).mono ?_
  rintro e w3 ⟨A3, c3, rfl, hown3, hgr3⟩
  have hz3 := hgr3.size
  simp only [World.size_alloc] at hz3
  have c1' : w3.cell? ⟨w1.heap.size, 0, none⟩ = some (.slice A1 n c1) := ((gcell hgr3).1 _ _ (by simp; omega) (fun e => by have := hbk _ e.symm; omega)).trans ((cell_old _ _ _ _ hm3).trans ((hc2 _ _ (by simp)).trans (by simp)))
  have c1f : w3.frozen? ⟨w1.heap.size, 0, none⟩ = false := ((gcell hgr3).2 _ _ (by simp; omega) (fun e => by have := hbk _ e.symm; omega)).trans ((frozen_old _ _ _ _ hm3).trans ((hf2 _ _ (by simp)).trans (by simp)))
  have c3' : w3.cell? ⟨w.heap.size + 1, 0, none⟩ = some (.slice none 0 0) := ((gcell hgr3).1 _ _ (by simp; omega) (fun e => by have := hbk _ e.symm; omega)).trans ((cell_old _ _ _ _ hm2).trans ((hc2 _ _ (by simp; omega)).trans ((cell_old _ _ _ _ hlt2).trans d3)))
  have c3f : w3.frozen? ⟨w.heap.size + 1, 0, none⟩ = false := ((gcell hgr3).2 _ _ (by simp; omega) (fun e => by have := hbk _ e.symm; omega)).trans ((frozen_old _ _ _ _ hm2).trans ((hf2 _ _ (by simp; omega)).trans ((frozen_old _ _ _ _ hlt2).trans d4)))
  have hty : w3.heap[w1.heap.size]? = some (.cells #[.slice A1 n c1] 26 (0, 0)) := (hgr3.block _ (by simp; omega) (fun e => by have := hbk _ e.symm; omega)).trans ((Below.heap_alloc _ _ _ hm3).trans ((hb2.block _ (by simp)).trans (heap_alloc_new w1 _)))
  have hb3 : Below w.heap.size w w3 := (hWb.trans ((hb1.mono (by have := HZ.out; omega)).alloc (by omega) _)).trans ((hb2.mono (by simp; omega)).trans (((Below.refl _ _).alloc (by omega) _).grown hgr3 (by simp; omega) (fun k hk => by have := hbk _ hk; omega)))
  have hne1 : (Value.slice A3 (n + 1) c3).ownBlock ≠ some w1.heap.size := own_ne_type hown3 hty (by decide)
  have hne2 : (Value.slice A3 (n + 1) c3).ownBlock ≠ some (w.heap.size + 1) := fun e => by have := hown3.lt _ e; have := HZ.out; omega
  have hrow : (ts.flatMap Trk.cells).take (lowb ts key * 3) ++ Trk.cells ⟨key, v, 1⟩ ++ (ts.flatMap Trk.cells).drop (lowb ts key * 3) = (train ts key v).flatMap Trk.cells := by
    rw [flat_take Trk.size, flat_drop Trk.size, train, HH.out]; simp
  rw [hrow] at hown3
  have hlen : (train ts key v).length = n + 1 := by
    rw [train, HH.out]; simp [hs.len]; omega
  have HLE := Lib.hid hlen
  have HRO := Lib.hid hrow
  clear hrow hlen
  go_wp2
  refine bodyPost_ret (v := .agg #[.slice A3 (n + 1) c3]) (by simp [results, Tryd.results8, go_sem, c3']) rfl ⟨A3, n + 1, c3, rfl, ?_, (by repeat (first | (with_reducible exact hb3) | (with_reducible refine Below.drew ?_) | (with_reducible refine below_drewN ?_ _) | (with_reducible refine Below.setCell ?_ ?_ _; rotate_left; (first | omega | (simp <;> omega))) | (with_reducible refine Below.alloc ?_ ?_ _; rotate_left; (first | omega | (simp <;> omega))))), own_lo hown3 (by have := HZ.out; omega)⟩
  exact Sl.of_own Trk.size HLE.out (own_setCell (own_setCell hown3 _ hne1) _ hne2)

end Go.Proofs.YtbmembmiejmoaaaDoor
