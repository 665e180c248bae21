/- The sanity check, and a predictor that has seen some values. -/
import Derived.Test.YtjioipecaemckaaL
import Derived.Test.YtjioipecaemckaaPlain2
import Derived.StillTailTactics
namespace Go.Proofs.Ytjioipecaemckaa
open Go.RowKit

theorem reftrain_any (A : Option Addr) (n c : Nat) (ts : List Trk) (key : Int) (v : Val) (w : World) (hs : Sl w w.heap.size 5 Trk.cells A n ts) (hn : n ≤ 900000) (hg : Good ts) :
    Calls Try.prog 11 #[.agg #[.slice A n c], .int .i64 key, v.value] w (Gives (train ts key v) w) := by
  cases hh : hit ts key
  · exact reftrain_new A n c ts key v w hs hn hh
  · exact reftrain_old A n c ts key v w hs hn hg hh

set_option maxHeartbeats 400000 in
theorem sane_any (w : World) : Calls Try.prog 7 #[] w fun e w' => e = .returned (.bool true) ∧ Below w.heap.size w w' := by
  go_enter Try.func7, Try.ntmps7
  go_wp2_with fail
  refine (train_any none 0 0 [] 9 ⟨false, 3⟩ _ Sl.nil (by omega) good_nil).mono ?_
  rintro e w1 ⟨A1, n1, c1, rfl, hs1, hb1, _⟩
  have hl1 : n1 = 1 := hs1.len.symm
  subst hl1
  go_wp2_with fail
  refine (train_any A1 1 c1 exA 9 ⟨false, 5⟩ _ hs1 (by omega) exA_good).mono ?_
  rintro e w2 ⟨A2, n2, c2, rfl, hs2, hb2, _⟩
  have hl2 : n2 = 1 := hs2.len.symm
  subst hl2
  have hb12 := hb1.trans (hb2.mono hb1.size)
  go_wp2_with fail
  have q0 : (w2.alloc (.cells #[.slice A2 1 c2] 27)).cell? ⟨w2.heap.size, 0, none⟩ = some (.slice A2 1 c2) := by simp
  refine (stride_any A2 1 c2 exB 9 _ ((hs2.below ((Below.refl _ _).alloc (Nat.le_refl _) _)).mono (by simp)) (by omega) exB_good.1).mono ?_
  rintro e w3 ⟨rfl, hb3⟩
  have hz3 := hb3.size
  simp only [World.size_alloc] at hz3
  have p3 := (hb3.cell (p := ⟨w2.heap.size, 0, none⟩) (by simp)).trans q0
  have l3 : w2.heap.size < w3.heap.size := by omega
  have hbs3 : Below w2.heap.size w2 w3 := ((Below.refl _ _).alloc (Nat.le_refl _) _).trans (hb3.mono (by simp))
  rw [exB_stride, exB_hit, Val.value]
  go_wp2_with fail
  have p3' : (w3.alloc (.cells #[.bool false, .int .i64 7] 31)).cell? ⟨w2.heap.size, 0, none⟩ = some (.slice A2 1 c2) := (cell_old _ _ _ _ l3).trans p3
  have a3 : (w3.alloc (.cells #[.bool false, .int .i64 7] 31)).cell? ⟨w3.heap.size, 1, none⟩ = some (.int .i64 7) := by simp
  refine (last_any A2 1 c2 exB 9 _ (((hs2.below hbs3).below ((Below.refl _ _).alloc (by omega) _)).mono (by simp; omega)) (by omega) exB_good.1).mono ?_
  rintro e w4 ⟨rfl, hb4⟩
  have hz4 := hb4.size
  simp only [World.size_alloc] at hz4
  have p4 := (hb4.cell (p := ⟨w2.heap.size, 0, none⟩) (by simp; omega)).trans p3'
  have a4 := (hb4.cell (p := ⟨w3.heap.size, 1, none⟩) (by simp)).trans a3
  have l4 : w2.heap.size < w4.heap.size := by omega
  have l4' : w3.heap.size < w4.heap.size := by omega
  have hbs4 : Below w2.heap.size w2 w4 := (hbs3.alloc (by omega) _).trans (hb4.mono (by simp; omega))
  rw [exB_last, exB_hit, Val.value]
  go_wp2_with fail
  have p4' : (w4.alloc (.cells #[.bool false, .int .i64 5] 31)).cell? ⟨w2.heap.size, 0, none⟩ = some (.slice A2 1 c2) := (cell_old _ _ _ _ l4).trans p4
  have a4' : (w4.alloc (.cells #[.bool false, .int .i64 5] 31)).cell? ⟨w3.heap.size, 1, none⟩ = some (.int .i64 7) := (cell_old _ _ _ _ l4').trans a4
  have b4 : (w4.alloc (.cells #[.bool false, .int .i64 5] 31)).cell? ⟨w4.heap.size, 1, none⟩ = some (.int .i64 5) := by simp
  refine (last_any A2 1 c2 exB 8 _ (((hs2.below hbs4).below ((Below.refl _ _).alloc (by omega) _)).mono (by simp; omega)) (by omega) exB_good.1).mono ?_
  rintro e w5 ⟨rfl, hb5⟩
  have hz5 := hb5.size
  simp only [World.size_alloc] at hz5
  have p5 := (hb5.cell (p := ⟨w2.heap.size, 0, none⟩) (by simp; omega)).trans p4'
  have a5 := (hb5.cell (p := ⟨w3.heap.size, 1, none⟩) (by simp; omega)).trans a4'
  have b5 := (hb5.cell (p := ⟨w4.heap.size, 1, none⟩) (by simp)).trans b4
  have l5 : w2.heap.size < w5.heap.size := by omega
  have l5' : w3.heap.size < w5.heap.size := by omega
  have l5'' : w4.heap.size < w5.heap.size := by omega
  have hbs5 : Below w.heap.size w w5 := hb12.trans (((hbs4.alloc (by omega) _).trans (hb5.mono (by simp; omega))).mono (by have := hb12.size; omega))
  rw [exB_no, exB_last8, Val.value]
  go_wp2_with fail
  have p5' : ∀ o, (w5.alloc o).cell? ⟨w2.heap.size, 0, none⟩ = some (.slice A2 1 c2) := fun o => (cell_old _ _ _ _ l5).trans p5
  have a5' : ∀ o, (w5.alloc o).cell? ⟨w3.heap.size, 1, none⟩ = some (.int .i64 7) := fun o => (cell_old _ _ _ _ l5').trans a5
  have b5' : ∀ o, (w5.alloc o).cell? ⟨w4.heap.size, 1, none⟩ = some (.int .i64 5) := fun o => (cell_old _ _ _ _ l5'').trans b5
  refine (key_any 0 3 _).mono ?_
  rintro e w6 ⟨rfl, hb6⟩
  have p6 := (hb6.cell (p := ⟨w2.heap.size, 0, none⟩) (by simp; omega)).trans (p5' _)
  have a6 := (hb6.cell (p := ⟨w3.heap.size, 1, none⟩) (by simp; omega)).trans (a5' _)
  have b6 := (hb6.cell (p := ⟨w4.heap.size, 1, none⟩) (by simp; omega)).trans (b5' _)
  have hbs6 : Below w.heap.size w w6 := (hbs5.alloc (by have := hbs5.size; omega) _).trans (hb6.mono (by have := hbs5.size; simp; omega))
  rw [show keyV 0 3 = .tuple #[.int .i64 259, .int .i64 0] from rfl]
  go_wp2
  go_ret
  exact ⟨rfl, hbs6⟩
end Go.Proofs.Ytjioipecaemckaa
