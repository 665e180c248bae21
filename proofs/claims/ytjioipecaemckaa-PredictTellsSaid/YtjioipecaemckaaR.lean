/- The law of references, walked. -/
import Derived.Test.YtjioipecaemckaaO
import Derived.Test.YtjioipecaemckaaPlain3
namespace Go.Proofs.Ytjioipecaemckaa
open Go.RowKit

theorem ref_facts {ts : List Trk} (hg : Good ts) (id n : Int) (hn : -9223372036854775808 ≤ n ∧ n ≤ 9223372036854775807) :
    strideV (train ts 5 ⟨true, id⟩) 5 = ⟨true, id⟩ ∧ lastV (train ts 5 ⟨true, id⟩) 5 = ⟨true, id⟩ ∧ hit (train ts 5 ⟨true, id⟩) 5 = true ∧
      strideV (train (train ts 5 ⟨true, id⟩) 5 ⟨false, n⟩) 5 = ⟨false, n⟩ ∧ hit (train (train ts 5 ⟨true, id⟩) 5 ⟨false, n⟩) 5 = true := by
  have hg2 := train_good hg 5 ⟨true, id⟩
  refine ⟨by rw [strideV_train hg]; rfl, lastV_train hg _ _, (fnd_train hg _ _).1, ?_, (fnd_train hg2 _ _).1⟩
  rw [strideV_train hg2]
  have hl : ((newTrk ts 5 ⟨true, id⟩).last).ref = true := by unfold newTrk; cases fnd ts 5 <;> rfl
  have h2 : (newTrk (train ts 5 ⟨true, id⟩) 5 ⟨false, n⟩).stride = 0 := by
    show (match fnd (train ts 5 ⟨true, id⟩) 5 with | some t => upd t ⟨false, n⟩ | none => _).stride = 0
    rw [(fnd_train hg 5 ⟨true, id⟩).2]
    simp [upd, hl]
  rw [h2, if_neg (by simp), Int.add_zero]
  show (⟨false, wrap64 n⟩ : Val) = ⟨false, n⟩
  rw [IntWalk.wrap64_in n hn]

set_option maxHeartbeats 1000000 in
theorem references_any (KA : Option Addr) (kn kc : Nat) (VA : Option Addr) (vn vc : Nat) (ks : List Int) (vs : List Val) (id n : Int) (w : World)
    (hk : Sl w w.heap.size 1 keyCells KA kn ks) (hv : Sl w w.heap.size 2 Val.cells VA vn vs) (hkn : kn ≤ 9223372036854775807) (hvn : vn ≤ 9223372036854775807) (hks : ∀ (i : Nat) (k : Int), ks[i]? = some k → 0 ≤ k ∧ k ≤ 255) (hn : -9223372036854775808 ≤ n ∧ n ≤ 9223372036854775807) :
    Calls Try.prog 6 #[.slice KA kn kc, .slice VA vn vc, .int .i64 id, .int .i64 n] w fun e w' => e = .returned (.bool true) ∧ Below w.heap.size w w' := by
  have HN := Lib.hid hn
  clear hn
  go_enter Try.func6, Try.ntmps6
  go_wp2_with fail
  refine (sane_any _).mono ?_
  rintro e w1 ⟨rfl, hb1⟩
  have hz1 := hb1.size
  go_wp2_with fail
  refine (trained_any KA kn kc VA vn vc ks vs w1 ((hk.below hb1).mono hz1) ((hv.below hb1).mono hz1) hkn hvn hks).mono ?_
  rintro e w2 ⟨ts, hg, hlen, A2, n2, c2, rfl, hs2, hb2, _⟩
  have hz2 := hb2.size
  have hb12 := hb1.trans (hb2.mono hz1)
  obtain ⟨f1, f2, f3, f4, f5⟩ := ref_facts hg id n HN.out
  have F1 := Lib.hid f1
  have F2 := Lib.hid f2
  have F3 := Lib.hid f3
  have F4 := Lib.hid f4
  have F5 := Lib.hid f5
  clear f1 f2 f3 f4 f5
  have hg2 := train_good hg 5 ⟨true, id⟩
  have hl2 := train_len ts 5 ⟨true, id⟩
  go_wp2_with fail
  refine (train_any A2 n2 c2 ts 5 ⟨true, id⟩ w2 hs2 (by rw [← hs2.len]; omega) hg).mono ?_
  rintro e w3 ⟨A3, n3, c3, rfl, hs3, hb3, _⟩
  have hz3 := hb3.size
  have hn3 : n3 ≤ 900000 := by rw [← hs3.len]; omega
  have hb13 := hb12.trans (hb3.mono (by omega))
  go_wp2_with fail
  have p3 : (w3.alloc (.cells #[.slice A3 n3 c3] 27)).cell? ⟨w3.heap.size, 0, none⟩ = some (.slice A3 n3 c3) := by simp
  refine (stride_any A3 n3 c3 _ 5 _ ((hs3.below ((Below.refl _ _).alloc (Nat.le_refl _) _)).mono (by simp)) (by omega) hg2.1).mono ?_
  rintro e w4 ⟨rfl, hb4⟩
  have hz4 := hb4.size
  simp only [World.size_alloc] at hz4
  have p4 := (hb4.cell (p := ⟨w3.heap.size, 0, none⟩) (by simp)).trans p3
  have l4 : w3.heap.size < w4.heap.size := by omega
  have hb34 : Below w3.heap.size w3 w4 := ((Below.refl _ _).alloc (Nat.le_refl _) _).trans (hb4.mono (by simp))
  rw [F1.out, F3.out, Val.value]
  go_wp2_with fail
  have p4' : (w4.alloc (.cells #[.bool true, .int .i64 id] 31)).cell? ⟨w3.heap.size, 0, none⟩ = some (.slice A3 n3 c3) := (cell_old _ _ _ _ l4).trans p4
  have a4 : (w4.alloc (.cells #[.bool true, .int .i64 id] 31)).cell? ⟨w4.heap.size, 0, none⟩ = some (.bool true) := by simp
  have a4' : (w4.alloc (.cells #[.bool true, .int .i64 id] 31)).cell? ⟨w4.heap.size, 1, none⟩ = some (.int .i64 id) := by simp
  refine (last_any A3 n3 c3 _ 5 _ (((hs3.below hb34).below ((Below.refl _ _).alloc (by omega) _)).mono (by simp; omega)) (by omega) hg2.1).mono ?_
  rintro e w5 ⟨rfl, hb5⟩
  have hz5 := hb5.size
  simp only [World.size_alloc] at hz5
  have p5 := (hb5.cell (p := ⟨w3.heap.size, 0, none⟩) (by simp; omega)).trans p4'
  have a5 := (hb5.cell (p := ⟨w4.heap.size, 0, none⟩) (by simp)).trans a4
  have a5' := (hb5.cell (p := ⟨w4.heap.size, 1, none⟩) (by simp)).trans a4'
  have l5 : w3.heap.size < w5.heap.size := by omega
  have l5' : w4.heap.size < w5.heap.size := by omega
  have hb35 : Below w3.heap.size w3 w5 := (hb34.alloc (by omega) _).trans (hb5.mono (by simp; omega))
  rw [F2.out, F3.out, Val.value]
  go_wp2_with fail
  obtain ⟨W5, hW5⟩ : ∃ W5, W5 = w5.alloc (.cells #[.bool true, .int .i64 id] 31) := ⟨_, rfl⟩
  rw [← hW5]
  have hZ5 : W5.heap.size = w5.heap.size + 1 := by rw [hW5]; simp
  have p6 : W5.cell? ⟨w3.heap.size, 0, none⟩ = some (.slice A3 n3 c3) := by rw [hW5]; exact (cell_old _ _ _ _ l5).trans p5
  have a6 : W5.cell? ⟨w4.heap.size, 0, none⟩ = some (.bool true) := by rw [hW5]; exact (cell_old _ _ _ _ l5').trans a5
  have a6' : W5.cell? ⟨w4.heap.size, 1, none⟩ = some (.int .i64 id) := by rw [hW5]; exact (cell_old _ _ _ _ l5').trans a5'
  have b6 : W5.cell? ⟨w5.heap.size, 0, none⟩ = some (.bool true) := by rw [hW5]; simp
  have b6' : W5.cell? ⟨w5.heap.size, 1, none⟩ = some (.int .i64 id) := by rw [hW5]; simp
  have hb36 : Below w3.heap.size w3 W5 := by rw [hW5]; exact hb35.alloc (by omega) _
  refine (train_any A3 n3 c3 _ 5 ⟨false, n⟩ W5 ((hs3.below hb36).mono (by omega)) hn3 hg2).mono ?_
  rintro e w7 ⟨A7, n7, c7, rfl, hs7, hb7, _⟩
  have hz7 := hb7.size
  have a7 := (hb7.cell (p := ⟨w4.heap.size, 0, none⟩) (by simp; omega)).trans a6
  have a7' := (hb7.cell (p := ⟨w4.heap.size, 1, none⟩) (by simp; omega)).trans a6'
  have b7 := (hb7.cell (p := ⟨w5.heap.size, 0, none⟩) (by simp; omega)).trans b6
  have b7' := (hb7.cell (p := ⟨w5.heap.size, 1, none⟩) (by simp; omega)).trans b6'
  have l7 : w4.heap.size < w7.heap.size := by omega
  have l7' : w5.heap.size < w7.heap.size := by omega
  have hb37 : Below w3.heap.size w3 w7 := hb36.trans (hb7.mono (by omega))
  clear p3 p4 p4' p5 p6 a4 a4' a5 a5' a6 a6' b6 b6'
  have HZ5 := Lib.hid hZ5
  clear hZ5 hW5
  have hn7 : n7 ≤ 1000000 := by have := hs7.len; have := train_len (train ts 5 ⟨true, id⟩) 5 ⟨false, n⟩; omega
  go_wp2_with fail
  refine (stride_any A7 n7 c7 _ 5 _ ((hs7.below ((Below.refl _ _).alloc (Nat.le_refl _) _)).mono (by simp)) hn7 (train_good hg2 5 ⟨false, n⟩).1).mono ?_
  rintro e w8 ⟨rfl, hb8⟩
  have hz8 := hb8.size
  simp only [World.size_alloc] at hz8
  have a8 := (hb8.cell (p := ⟨w4.heap.size, 0, none⟩) (by simp; omega)).trans ((cell_old _ _ _ _ l7).trans a7)
  have a8' := (hb8.cell (p := ⟨w4.heap.size, 1, none⟩) (by simp; omega)).trans ((cell_old _ _ _ _ l7).trans a7')
  have b8 := (hb8.cell (p := ⟨w5.heap.size, 0, none⟩) (by simp; omega)).trans ((cell_old _ _ _ _ l7').trans b7)
  have b8' := (hb8.cell (p := ⟨w5.heap.size, 1, none⟩) (by simp; omega)).trans ((cell_old _ _ _ _ l7').trans b7')
  have l8 : w4.heap.size < w8.heap.size := by omega
  have l8' : w5.heap.size < w8.heap.size := by omega
  have hb38 : Below w3.heap.size w3 w8 := (hb37.alloc (by omega) _).trans (hb8.mono (by simp; omega))
  rw [F4.out, F5.out, Val.value]
  clear a7 a7' b7 b7'
  go_wp2
  go_ret
  exact ⟨rfl, hb13.trans ((hb38.alloc (by omega) _).mono (by omega))⟩
end Go.Proofs.Ytjioipecaemckaa
