/- The sanity check of the laws of sequencers. -/
import Derived.Test.YtbmembmiejmoaaaDoorL
import Derived.Deep.RegionHeld3
import Derived.Deep.DeepCutAuto
namespace Go.Proofs.YtbmembmiejmoaaaDoor
open Go.RowKit

def exA : List Trk := train [] 7 7
def exB : List Trk := train [] 1 1
theorem exA_good : Good exA := train_good good_nil _ _
theorem exB_good : Good exB := train_good good_nil _ _
def zeroCells : List Value := [.int .i64 0, .int .i64 0, .bool false, .int .i64 0] ++ (List.replicate 16 [Value.bool false, .int .i64 0]).flatten ++ List.replicate 6 (.slice none 0 0) ++ [.int .i64 0, .int .i64 0, .bool false, .bool false, .int .i64 0, .int .i64 0]
def zeroTk : Tk := ⟨0, 0, 0, zeroCells, rfl, rfl, rfl, rfl⟩

theorem zero_sl (w : World) : Sl (w.alloc (.cells zeroCells.toArray 47)) (w.alloc (.cells zeroCells.toArray 47)).heap.size 48 Tk.cells (some ⟨w.heap.size, 0, none⟩) 1 [zeroTk] := by
  refine ⟨rfl, fun _ => ⟨w.heap.size, 0, rfl, by simp, fun i x hx j u hu => ?_⟩⟩
  have hi : i = 0 := by have := (List.getElem?_eq_some_iff.1 hx).1; simp at this; omega
  subst hi
  simp at hx
  subst hx
  rw [cell_new _ _ _ _ _ rfl, Nat.zero_mul, Nat.zero_add, Nat.zero_add]
  rw [List.getElem?_toArray]; exact hu

set_option maxRecDepth 100000 in
set_option maxHeartbeats 2000000 in
theorem sane_any (w : World) (ht : Tab w) : Calls Tryd.prog 6 #[] w fun e w' => e = .returned (.bool true) ∧ Below w.heap.size w w' := by
  go_enter Tryd.func6, Tryd.ntmps6
  go_wp2_with fail
  refine (train_any none 0 0 [] 7 7 _ Sl.nil (by omega) good_nil).mono ?_
  rintro e w1 ⟨A1, n1, c1, rfl, hs1, hb1, _⟩
  have hl1 : n1 = 1 := hs1.len.symm
  subst hl1
  go_wp2_with fail
  obtain ⟨W1, hW1⟩ : ∃ W, W = w1.alloc (.cells #[.slice A1 1 c1] 26) := ⟨_, rfl⟩
  rw [← hW1]
  have hz1 : W1.heap.size = w1.heap.size + 1 := by rw [hW1]; simp
  have hbW : Below w1.heap.size w1 W1 := by rw [hW1]; exact (Below.refl _ _).alloc (Nat.le_refl _) _
  have q0 : W1.cell? ⟨w1.heap.size, 0, none⟩ = some (.slice A1 1 c1) := by rw [hW1]; simp
  have HS1 := Lib.hid (hs1.up hbW)
  have hb01 : Below w.heap.size w W1 := hb1.trans (hbW.mono hb1.size)
  clear hW1 hs1
  refine (guess_any A1 1 c1 exA 7 W1 HS1.out (by omega) exA_good.1).mono ?_
  rintro e w2 ⟨rfl, hb2⟩
  have q0 := (belc hb2 (by omega)).trans q0
  have HS2 := Lib.hid (HS1.out.up hb2)
  have hb02 : Below w.heap.size w w2 := hb01.trans (hb2.mono hb01.size)
  have hl2 : w1.heap.size < w2.heap.size := by have := hb2.size; omega
  rw [show guessN exA 7 = 7 from rfl, show hit exA 7 = true from rfl]
  go_wp2_with fail
  refine (guess_any A1 1 c1 exA 8 w2 HS2.out (by omega) exA_good.1).mono ?_
  rintro e w3 ⟨rfl, hb3⟩
  have hb03 : Below w.heap.size w w3 := hb02.trans (hb3.mono hb02.size)
  rw [show guessN exA 8 = 0 from rfl, show hit exA 8 = false from rfl]
  clear q0 hl2
  go_wp2_with fail
  obtain ⟨W4, hW4⟩ : ∃ W, W = (w3.alloc (.cells #[.int .i64 21, .int .i64 0, .int .i64 0, .int .i64 0, .int .i64 0, .int .i64 1, .int .i64 1, .int .i64 0, .int .i64 0, .int .i64 3, .int .i64 14, .int .i64 1, .int .i64 0, .int .i64 0, .int .i64 0] 51)).alloc (.cells #[.slice (some ⟨w3.heap.size, 0, none⟩) 3 3, .int .i64 0, .int .i64 1] 54) := ⟨_, rfl⟩
  rw [← hW4]
  have hz4 : W4.heap.size = w3.heap.size + 2 := by rw [hW4]; simp
  have hbW4 : Below w3.heap.size w3 W4 := by rw [hW4]; exact (by repeat (first | (with_reducible exact (Below.refl _ _)) | (with_reducible refine Below.drew ?_) | (with_reducible refine below_drewN ?_ _) | (with_reducible refine Below.setCell ?_ ?_ _; rotate_left; (first | omega | (simp <;> omega))) | (with_reducible refine Below.alloc ?_ ?_ _; rotate_left; (first | omega | (simp <;> omega)))))
  have p0 : W4.cell? ⟨w3.heap.size + 1, 0, none⟩ = some (.slice (some ⟨w3.heap.size, 0, none⟩) 3 3) := by rw [hW4, cell_new _ _ _ _ _ (by simp)]; rfl
  have p1 : W4.cell? ⟨w3.heap.size + 1, 1, none⟩ = some (.int .i64 0) := by rw [hW4, cell_new _ _ _ _ _ (by simp)]; rfl
  have p2 : W4.cell? ⟨w3.heap.size + 1, 2, none⟩ = some (.int .i64 1) := by rw [hW4, cell_new _ _ _ _ _ (by simp)]; rfl
  have HC4 : Hid (C3 W4 w3.heap.size) := by
    rw [hW4]
    exact ⟨by simp; omega, by rw [cell_old _ _ _ _ (by simp), cell_new _ _ _ _ _ rfl]; rfl, by rw [cell_old _ _ _ _ (by simp), cell_new _ _ _ _ _ rfl]; rfl, by rw [cell_old _ _ _ _ (by simp), cell_new _ _ _ _ _ rfl]; rfl, by rw [cell_old _ _ _ _ (by simp), cell_new _ _ _ _ _ rfl]; rfl, by rw [cell_old _ _ _ _ (by simp), cell_new _ _ _ _ _ rfl]; rfl, by rw [cell_old _ _ _ _ (by simp), cell_new _ _ _ _ _ rfl]; rfl, by rw [cell_old _ _ _ _ (by simp), cell_new _ _ _ _ _ rfl]; rfl, by rw [cell_old _ _ _ _ (by simp), cell_new _ _ _ _ _ rfl]; rfl, by rw [cell_old _ _ _ _ (by simp), cell_new _ _ _ _ _ rfl]; rfl, by rw [cell_old _ _ _ _ (by simp), cell_new _ _ _ _ _ rfl]; rfl, by rw [cell_old _ _ _ _ (by simp), cell_new _ _ _ _ _ rfl]; rfl, by rw [cell_old _ _ _ _ (by simp), cell_new _ _ _ _ _ rfl]; rfl, by rw [cell_old _ _ _ _ (by simp), cell_new _ _ _ _ _ rfl]; rfl, by rw [cell_old _ _ _ _ (by simp), cell_new _ _ _ _ _ rfl]; rfl, by rw [cell_old _ _ _ _ (by simp), cell_new _ _ _ _ _ rfl]; rfl⟩
  have hb04 : Below w.heap.size w W4 := hb03.trans (hbW4.mono hb03.size)
  have HT4 := Lib.hid (ht.below hb04)
  have hl4 : w3.heap.size + 1 < W4.heap.size := by omega
  have HZ4 := Lib.hid hz4
  clear hW4 hz4
  go_cut [7] (fun s7 wx => Hid (∃ g c', s7 = .slice (some ⟨g, 0, none⟩) 3 c' ∧ wx.cell? ⟨g, 2, none⟩ = some (.int .i64 1) ∧ Below w.heap.size w wx))
  case first =>
    go_region_held3 (fun w' => w'.cell? ⟨w3.heap.size + 1, 0, none⟩ = some (.slice (some ⟨w3.heap.size, 0, none⟩) 3 3) ∧ w'.cell? ⟨w3.heap.size + 1, 1, none⟩ = some (.int .i64 0) ∧ w'.cell? ⟨w3.heap.size + 1, 2, none⟩ = some (.int .i64 1))
      (first | exact ⟨p0, p1, p2⟩ | exact ⟨p05, p15, p25⟩ | exact ⟨p06, p16, p26⟩)
      (first
        | (go_at_call 8; refine (train_any none 0 0 [] 1 1 W4.drew Sl.nil (by omega) good_nil).mono ?_; rintro e w5 ⟨A5, n5, c5, rfl, hs5, hb5, _⟩; obtain rfl : n5 = 1 := hs5.len.symm; have hb5 : Below W4.heap.size W4 w5 := (Below.drew (Below.refl _ _)).trans hb5; have p05 := (belc hb5 hl4).trans p0; have p15 := (belc hb5 hl4).trans p1; have p25 := (belc hb5 hl4).trans p2; have HS5 := Lib.hid hs5; have HC5 := Lib.hid (HC4.out.below hb5); have HT5 := Lib.hid (HT4.out.below hb5); clear hs5)
        | (go_at_call 15; refine (chain_any w3.heap.size A5 1 c5 exB w5 (by omega) exB_good.1 rfl rfl HC5.out HT5.out HS5.out).mono ?_; rintro e w6 ⟨g6, c6, rfl, hg6, hb6⟩; have hz5 := hb5.size; have hb6 : Below W4.heap.size W4 w6 := hb5.trans (hb6.mono hz5); have p06 := (belc hb6 hl4).trans p0; have p16 := (belc hb6 hl4).trans p1; have p26 := (belc hb6 hl4).trans p2))
    all_goals
      go_wp2_with fail
      go_meet
      exact ⟨g6, c6, rfl, hg6, hb04.trans (hb6.mono hb04.size)⟩
  case rest =>
    obtain ⟨g6, c6, rfl, hg6, hb6⟩ := hcut.out
    rename World => w6
    go_wp2_with fail
    refine (linked_any (some ⟨w6.heap.size, 0, none⟩) 1 1 [zeroTk] (w6.alloc (.cells zeroCells.toArray 47)) (zero_sl w6) (by omega)).mono ?_
    rintro e w7 ⟨m, rfl, hm, hb7⟩
    obtain rfl : m = 1 := by have h1 := hm.le; have h2 := hm.lo (by simp); simp at h1; omega
    have hbe : Below w.heap.size w w7 := (hb6.alloc hb6.size _).trans (hb7.mono (by have := hb6.size; simp; omega))
    go_wp2
    go_ret
    exact ⟨rfl, hbe⟩
end Go.Proofs.YtbmembmiejmoaaaDoor
