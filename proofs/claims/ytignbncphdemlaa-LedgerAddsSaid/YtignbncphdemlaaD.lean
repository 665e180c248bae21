/- One share more: ledger.Add. -/
import Derived.Test.YtignbncphdemlaaCloneSR
import Derived.Test.YtignbncphdemlaaIdx1
import Derived.Test.YtignbncphdemlaaIdx2
import Derived.Test.YtignbncphdemlaaInsS
import Derived.Test.YtignbncphdemlaaC
namespace Go.Proofs.Ytignbncphdemlaa
open Go.RowKit

/-- What a call leaves that gives shares. -/
def GivesS (l : List Shr) (w : World) (e : Ending) (w' : World) : Prop := ∃ A' n' c', e = .returned (.slice A' n' c') ∧ n' = l.length ∧ Sl w' w'.heap.size 2 Shr.cells A' n' l ∧ Below w.heap.size w w' ∧ (0 < n' → ∀ ad, A' = some ad → w.heap.size ≤ ad.block) ∧ (n' ≤ c' ∧ (A' = none → c' = 0))

theorem eq_any (x : Shr) (p : Nat) (k : Int) (w : World) (hp : p < w.heap.size) (hc : w.cell? ⟨p, 0, none⟩ = some (.int .i64 k)) :
    Calls Try.prog 35 #[.agg #[.int .i64 x.worker, .int .i64 x.steps], .pointer (some ⟨p, 0, none⟩)] w fun e w' => e = .returned (.bool (x.worker == k)) ∧ Below w.heap.size w w' := by
  have c1 : ∀ o, (w.alloc o).cell? ⟨p, 0, none⟩ = some (.int .i64 k) := fun o => (cell_old w o p 0 hp).trans hc
  go_enter Try.func35, Try.ntmps35
  go_wp2
  go_ret
  exact ⟨rfl, (by repeat (first | (with_reducible exact (Below.refl _ _)) | (with_reducible refine Below.drew ?_) | (with_reducible refine below_drewN ?_ _) | (with_reducible refine Below.setCell ?_ ?_ _; rotate_left; (first | omega | (simp <;> omega))) | (with_reducible refine Below.alloc ?_ ?_ _; rotate_left; (first | omega | (simp <;> omega)))))⟩
theorem gt_any (x : Shr) (p : Nat) (k : Int) (w : World) (hp : p < w.heap.size) (hc : w.cell? ⟨p, 0, none⟩ = some (.int .i64 k)) :
    Calls Try.prog 36 #[.agg #[.int .i64 x.worker, .int .i64 x.steps], .pointer (some ⟨p, 0, none⟩)] w fun e w' => e = .returned (.bool (decide (k < x.worker))) ∧ Below w.heap.size w w' := by
  have c1 : ∀ o, (w.alloc o).cell? ⟨p, 0, none⟩ = some (.int .i64 k) := fun o => (cell_old w o p 0 hp).trans hc
  go_enter Try.func36, Try.ntmps36
  go_wp2
  go_ret
  exact ⟨rfl, (by repeat (first | (with_reducible exact (Below.refl _ _)) | (with_reducible refine Below.drew ?_) | (with_reducible refine below_drewN ?_ _) | (with_reducible refine Below.setCell ?_ ?_ _; rotate_left; (first | omega | (simp <;> omega))) | (with_reducible refine Below.alloc ?_ ?_ _; rotate_left; (first | omega | (simp <;> omega)))))⟩

def addS (l : List Shr) (k : Int) : List Shr :=
  if 0 ≤ IdxEq.idx (fun x => x.worker == k) l then l.modify (IdxEq.idx (fun x => x.worker == k) l).toNat (fun x => ⟨x.worker, x.steps + 1⟩)
  else if IdxGt.idx (fun x => decide (k < x.worker)) l < 0 then l ++ [⟨k, 1⟩]
  else l.take (IdxGt.idx (fun x => decide (k < x.worker)) l).toNat ++ [⟨k, 1⟩] ++ l.drop (IdxGt.idx (fun x => decide (k < x.worker)) l).toNat
def OkS (l : List Shr) : Prop := ∀ (i : Nat) (x : Shr), l[i]? = some x → -1125899906842624 ≤ x.steps ∧ x.steps ≤ 1125899906842624

theorem ins_sl {w : World} {base n i : Nat} {A : Option Addr} {c : Nat} {l : List Shr} {k : Int} (hl : l.length = n) (_hi : i ≤ n) (h : w.ownsRow base 46 2 (.slice A (n + 1) c) (n + 1) ((l.flatMap Shr.cells).take (i * 2) ++ Shr.cells ⟨k, 1⟩ ++ (l.flatMap Shr.cells).drop (i * 2))) :
    Sl w w.heap.size 2 Shr.cells A (n + 1) (l.take i ++ [⟨k, 1⟩] ++ l.drop i) ∧ (∀ ad, A = some ad → base ≤ ad.block) := by
  rw [flat_take Shr.size, flat_drop Shr.size] at h
  have h' : w.ownsRow base 46 2 (.slice A (n + 1) c) (n + 1) ((l.take i ++ [(⟨k, 1⟩ : Shr)] ++ l.drop i).flatMap Shr.cells) := by simpa using h
  refine ⟨Sl.of_own Shr.size (by simp; omega) h', fun ad hA => ?_⟩
  obtain ⟨g, rfl, h1, _⟩ := own_at0 h (by omega)
  injection hA with hA
  subst hA
  exact h1

set_option maxHeartbeats 1000000 in
theorem add_any (A : Option Addr) (n c : Nat) (l : List Shr) (k : Int) (w : World) (hs : Sl w w.heap.size 2 Shr.cells A n l) (hn : n ≤ 1000) (hok : OkS l) :
    Calls Try.prog 12 #[.slice A n c, .int .i64 k] w (GivesS (addS l k) w) := by
  have HL := Lib.hid hs.len
  have HOK := Lib.hid hok
  obtain ⟨W, hW⟩ : ∃ W, W = w.alloc (.cells #[.int .i64 k] 3) := ⟨_, rfl⟩
  have hWb : Below w.heap.size w W := by rw [hW]; exact (by repeat (first | (with_reducible exact (Below.refl _ _)) | (with_reducible refine Below.drew ?_) | (with_reducible refine below_drewN ?_ _) | (with_reducible refine Below.setCell ?_ ?_ _; rotate_left; (first | omega | (simp <;> omega))) | (with_reducible refine Below.alloc ?_ ?_ _; rotate_left; (first | omega | (simp <;> omega)))))
  have hWz : W.heap.size = w.heap.size + 1 := by rw [hW]; simp
  have q0 : W.cell? ⟨w.heap.size, 0, none⟩ = some (.int .i64 k) := (by rw [hW, cell_new _ _ _ _ _ (by simp <;> omega)]; rfl)
  have hsW := (hs.below hWb).mono (B' := W.heap.size) (by omega)
  have HSW := Lib.hid hsW
  have HQ0 := Lib.hid q0
  have HZ := Lib.hid hWz
  have HB := Lib.hid hWb
  clear hok hs hWb hWz q0 hsW
  go_enter Try.func12, Try.ntmps12
  go_wp2_with fail
  rw [← hW]
  have HW := Lib.hid hW
  clear hW
  refine (CloneShr.recs A n c l W HSW.out (by omega)).mono ?_
  rintro e w1 ⟨A1, c1, rfl, hown1, hs1, hb1, hg1⟩
  have hz1 := hb1.size
  have r1 := (belc hb1 (by rw [HZ.out]; omega)).trans HQ0.out
  have hbw1 : Below w.heap.size w w1 := HB.out.trans (hb1.mono (by rw [HZ.out]; omega))
  have HR1 := Lib.hid r1
  have HO1 := Lib.hid hown1
  have HG1 := Lib.hid hg1
  have HS1 := Lib.hid hs1
  have hlo1 : w.heap.size < w1.heap.size := by have := HZ.out; omega
  clear r1 hown1 hg1 hs1
  go_wp2_with fail
  refine (IdxEq.any A1 n c1 l (fun x => x.worker == k) w.heap.size w1 HS1.out (by omega) (fun x _ w' hb' => eq_any x w.heap.size k w' (by have := hb'.size; omega) ((hb'.cell (p := ⟨w.heap.size, 0, none⟩) hlo1).trans HR1.out))).mono ?_
  rintro e w2 ⟨rfl, hb2⟩
  have hz2 := hb2.size
  have hbw2 : Below w.heap.size w w2 := hbw1.trans (hb2.mono hbw1.size)
  have r2 := (hb2.cell (p := ⟨w.heap.size, 0, none⟩) hlo1).trans HR1.out
  have HO2 := Lib.hid (own_below HO1.out hb2)
  have hlo2 : w.heap.size < w2.heap.size := by omega
  rcases IdxEq.idx_cases (fun x => x.worker == k) l with ⟨hi, hno⟩ | ⟨i, x, hi, hil, hx, hq, _⟩
  · have HR2 := Lib.hid r2
    have HI := Lib.hid hi
    clear r2 hno hi
    rw [HI.out]
    go_wp2_with fail
    have HS2 := Lib.hid (HS1.out.up hb2)
    refine (IdxGt.any A1 n c1 l (fun x => decide (k < x.worker)) w.heap.size w2 HS2.out (by omega) (fun x _ w' hb' => gt_any x w.heap.size k w' (by have := hb'.size; omega) ((hb'.cell (p := ⟨w.heap.size, 0, none⟩) hlo2).trans HR2.out))).mono ?_
    rintro e w3 ⟨rfl, hb3⟩
    have hz3 := hb3.size
    have hbw3 : Below w.heap.size w w3 := hbw2.trans (hb3.mono hbw2.size)
    have r3 := (hb3.cell (p := ⟨w.heap.size, 0, none⟩) hlo2).trans HR2.out
    have HO3 := Lib.hid (own_below HO2.out hb3)
    have hlo3 : w.heap.size < w3.heap.size := by omega
    have hWw : W.heap.size ≤ w3.heap.size := by omega
    have hbl : (Value.slice A1 n c1).ownBlock ≠ some w3.heap.size := by
      intro h
      exact Nat.lt_irrefl _ (own_block_lt HO3.out h).2
    rcases IdxGt.idx_cases (fun x => decide (k < x.worker)) l with ⟨hj, _⟩ | ⟨j, y, hj, hjl, _⟩
    · have HJ := Lib.hid hj
      have HA := Lib.hid (show addS l k = l.take n ++ [⟨k, 1⟩] ++ l.drop n from by rw [addS, HI.out, HJ.out, ← HL.out]; simp)
      clear hj
      rw [HJ.out]
      go_wp2_with fail
      refine (InsShr.any (.slice A1 n c1) n n (l.flatMap Shr.cells) (Shr.cells ⟨k, 1⟩) W.heap.size w3.heap.size _ (own_below HO3.out ((by repeat (first | (with_reducible exact (Below.refl _ _)) | (with_reducible refine Below.drew ?_) | (with_reducible refine below_drewN ?_ _) | (with_reducible refine Below.setCell ?_ ?_ _; rotate_left; (first | omega | (simp <;> omega))) | (with_reducible refine Below.alloc ?_ ?_ _; rotate_left; (first | omega | (simp <;> omega))))))) (by have := HL.out; omega) (by omega) (by simp; omega) rfl (heap_new _ _) hbl (by simp [Shr.cells, Value.oneCell']) (shr_one l)).mono ?_
      rintro e w4 ⟨A4, c4, rfl, hown4, hgr4⟩
      obtain ⟨hs4, hl4⟩ := ins_sl HL.out (by have := HL.out; omega) hown4
      have hb4 : Below w.heap.size w w4 := (hbw3.alloc (by omega) _).grown hgr4 (by simp; omega) (fun g hg => by have := (own_block_lt HO3.out hg).1; have := HZ.out; omega)
      go_wp2
      go_ret
      have hln : n + 1 = (addS l k).length := by have := HL.out; rw [HA.out]; simp; omega
      refine ⟨A4, n + 1, c4, rfl, hln, by rw [HA.out]; exact hs4, hb4, fun _ ad h => by have := hl4 ad h; have := HZ.out; omega, own_room hown4⟩
    · have HJ := Lib.hid hj
      have HA := Lib.hid (show addS l k = l.take j ++ [⟨k, 1⟩] ++ l.drop j from by rw [addS, HI.out, HJ.out, if_neg (by decide), if_neg (by omega)]; simp)
      clear hj
      rw [HJ.out]
      go_wp2_with fail
      refine (InsShr.any (.slice A1 n c1) n j (l.flatMap Shr.cells) (Shr.cells ⟨k, 1⟩) W.heap.size w3.heap.size _ (own_below HO3.out ((by repeat (first | (with_reducible exact (Below.refl _ _)) | (with_reducible refine Below.drew ?_) | (with_reducible refine below_drewN ?_ _) | (with_reducible refine Below.setCell ?_ ?_ _; rotate_left; (first | omega | (simp <;> omega))) | (with_reducible refine Below.alloc ?_ ?_ _; rotate_left; (first | omega | (simp <;> omega))))))) (by have := HL.out; omega) (by omega) (by simp; omega) rfl (heap_new _ _) hbl (by simp [Shr.cells, Value.oneCell']) (shr_one l)).mono ?_
      rintro e w4 ⟨A4, c4, rfl, hown4, hgr4⟩
      obtain ⟨hs4, hl4⟩ := ins_sl HL.out (by have := HL.out; omega) hown4
      have hb4 : Below w.heap.size w w4 := (hbw3.alloc (by omega) _).grown hgr4 (by simp; omega) (fun g hg => by have := (own_block_lt HO3.out hg).1; have := HZ.out; omega)
      go_wp2
      go_ret
      have hln : n + 1 = (addS l k).length := by have := HL.out; rw [HA.out]; simp; omega
      refine ⟨A4, n + 1, c4, rfl, hln, by rw [HA.out]; exact hs4, hb4, fun _ ad h => by have := hl4 ad h; have := HZ.out; omega, own_room hown4⟩
  · have HI := Lib.hid hi
    have HX := Lib.hid hx
    obtain ⟨h0, h1⟩ := HOK.out i x hx
    have HA := Lib.hid (show addS l k = l.modify i (fun x => ⟨x.worker, x.steps + 1⟩) from by rw [addS, HI.out]; simp)
    clear hi hx
    rw [HI.out]
    have hin : i < n := by rw [← HL.out]; exact hil
    obtain ⟨g, hA1, hg0, hg1, hfz⟩ := HG1.out (by omega)
    subst hA1
    have HS2 := Lib.hid (HS1.out.up hb2)
    have c1 : w2.cell? ⟨g, i * 2 + 1, none⟩ = some (.int .i64 x.steps) := by have := sl_at HS2.out HX.out (j := 1) rfl; rwa [Nat.zero_add] at this
    have f1 : w2.frozen? ⟨g, i * 2 + 1, none⟩ = false := (belf hb2 hg1).trans (hfz _)
    clear hfz hq r2
    go_wp2
    go_ret
    have hln : n = (addS l k).length := by rw [HA.out, List.length_modify]; exact HL.out.symm
    refine ⟨some ⟨g, 0, none⟩, n, _, rfl, hln, ?_, hbw2.setCell (p := ⟨g, i * 2 + 1, none⟩) (by show _ ≤ g; have := HZ.out; omega) _, fun _ => by rintro ad ⟨⟩; show _ ≤ g; have := HZ.out; omega, own_room HO2.out⟩
    rw [HA.out]
    exact (Sl.mod1 Shr.size HS2.out HX.out (j := 1) (by omega) rfl _ (by simp)).mono (by simp)
end Go.Proofs.Ytignbncphdemlaa
