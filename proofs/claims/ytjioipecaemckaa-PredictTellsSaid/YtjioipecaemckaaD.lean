/- Stride, of the program and of the reference. -/
import Derived.Test.YtjioipecaemckaaC
namespace Go.Proofs.Ytjioipecaemckaa
open Go.RowKit

set_option maxHeartbeats 400000 in
theorem stride_any (A : Option Addr) (n c : Nat) (ts : List Trk) (key : Int) (w : World) (hs : Sl w w.heap.size 5 Trk.cells A n ts) (hn : n ≤ 1000000) (hsort : Sorted ts) :
    Calls Try.prog 14 #[.agg #[.slice A n c], .int .i64 key] w fun e w' => e = .returned (.tuple #[(strideV ts key).value, .bool (hit ts key)]) ∧ Below w.heap.size w w' := by
  have HS := Lib.hid hsort
  have HN := Lib.hid hs.len
  clear hsort
  go_enter Try.func14, Try.ntmps14
  go_wp2_with fail
  refine (last_any A n c ts key _ ((hs.below (((Below.refl _ _).alloc (Nat.le_refl _) _).alloc (by simp) _)).mono (by simp <;> omega)) hn HS.out).mono ?_
  rintro e w1 ⟨rfl, hb⟩
  have hb1 : Below w.heap.size w w1 := (((Below.refl _ _).alloc (Nat.le_refl _) _).alloc (by simp) _).trans (hb.mono (by simp; omega))
  have hz := hb.size
  simp only [World.size_alloc] at hz
  have hz0 : w.heap.size < w1.heap.size := by omega
  have hz1 : w.heap.size + 1 < w1.heap.size := by omega
  obtain ⟨hc, hf⟩ := bcell hb
  have HB := Lib.hid hb1
  clear hb hb1
  unfold Val.value
  obtain ⟨lv, hlv⟩ : ∃ lv, lv = lastV ts key := ⟨_, rfl⟩
  have HV := Lib.hid hlv
  rw [← hlv]
  clear hlv
  go_wp2_with fail
  refine (find_any A n c ts key _ ((hs.below (HB.out.alloc (by omega) _)).mono (by simp <;> omega)) hn HS.out).mono ?_
  rintro e w2 ⟨rfl, hb2⟩
  have hb3 : Below w.heap.size w w2 := (HB.out.alloc (by omega) _).trans (hb2.mono (by simp; omega))
  obtain ⟨hc2, hf2⟩ := bcell hb2
  have hz2 := hb2.size
  simp only [World.size_alloc] at hz2
  have hz20 : w.heap.size < w2.heap.size := by omega
  have hz21 : w.heap.size + 1 < w2.heap.size := by omega
  have hz22 : w1.heap.size < w2.heap.size := by omega
  have hr0 : w2.cell? ⟨w.heap.size + 1, 0, none⟩ = some (.bool false) := (hc2 _ 0 (by simp; omega)).trans (by rw [World.cell?_alloc_lt _ _ _ (by omega), hc _ 0 (by simp)]; simp)
  have hr1 : w2.cell? ⟨w.heap.size + 1, 1, none⟩ = some (.int .i64 0) := (hc2 _ 1 (by simp; omega)).trans (by rw [World.cell?_alloc_lt _ _ _ (by omega), hc _ 1 (by simp)]; simp)
  by_cases hh : hit ts key = true
  · obtain ⟨t, ht, _, _⟩ := fnd_some hh
    have hle : lowb ts key < n := by rw [← HN.out]; exact (List.getElem?_eq_some_iff.1 ht).1
    have HW := Lib.hid (strideV_hit ht hh)
    have HL := Lib.hid (HV.out.trans (lastV_hit ht hh))
    obtain ⟨k, hk⟩ : ∃ k, k = lowb ts key := ⟨_, rfl⟩
    rw [← hk] at ht hle
    rw [← hk]
    obtain ⟨ab, ao, rfl, hlo, hat⟩ := hs.at_ (by omega)
    have c3 : w2.cell? ⟨ab, ao + k * 5 + 2 + 1, none⟩ = some (.int .i64 t.stride) := (hb3.cell (p := ⟨ab, _, none⟩) hlo).trans (hat k t ht 3 _ rfl)
    have HH := Lib.hid hh
    clear ht hat hk hh
    rw [HH.out]
    cases hr : lv.ref
    · go_wp2
      go_region
      go_wp2
      refine bodyPost_ret (v := .tuple #[.agg #[.bool false, .int .i64 (wrap64 (lv.n + t.stride))], .bool true]) (by simp [results, Try.results14, go_sem, hr0, hr1]) rfl ⟨?_, ?_⟩
      · rw [HW.out, HH.out, ← HL.out, hr]; simp [Val.value]
      · exact Below.drew (((hb3.setCell (by simp; omega) _).setCell (by simp) _).setCell (by simp) _)
    · go_wp2
      refine bodyPost_ret (v := .tuple #[.agg #[.bool true, .int .i64 lv.n], .bool true]) (by simp [results, Try.results14, go_sem, hr0, hr1]) rfl ⟨by rw [HW.out, HH.out, ← HL.out, if_pos hr, Val.value, hr], ?_⟩
      exact (hb3.setCell (by simp) _).setCell (by simp) _
  · have hh : hit ts key = false := by simpa using hh
    have HW := Lib.hid (strideV_miss hh)
    have HL := Lib.hid (HV.out.trans (lastV_miss hh))
    have HH := Lib.hid hh
    clear hh
    rw [HH.out]
    go_wp2
    refine bodyPost_ret (v := .tuple #[.agg #[.bool lv.ref, .int .i64 lv.n], .bool false]) (by simp [results, Try.results14, go_sem, hr0, hr1]) rfl ⟨by rw [HW.out, HH.out, HL.out]; rfl, ?_⟩
    exact (hb3.setCell (by simp) _).setCell (by simp) _

set_option maxHeartbeats 400000 in
theorem refstride_any (A : Option Addr) (n c : Nat) (ts : List Trk) (key : Int) (w : World) (hs : Sl w w.heap.size 5 Trk.cells A n ts) (hn : n ≤ 1000000) :
    Calls Try.prog 15 #[.agg #[.slice A n c], .int .i64 key] w fun e w' => e = .returned (.tuple #[(strideV ts key).value, .bool (hit ts key)]) ∧ Below w.heap.size w w' := by
  have HN := Lib.hid hs.len
  go_enter Try.func15, Try.ntmps15
  go_wp2_with fail
  refine (at_any A n c ts key _ ((hs.below (((Below.refl _ _).alloc (Nat.le_refl _) _).alloc (by simp) _)).mono (by simp <;> omega)) hn).mono ?_
  rintro e w1 ⟨rfl, hb⟩
  have hb1 : Below w.heap.size w w1 := (((Below.refl _ _).alloc (Nat.le_refl _) _).alloc (by simp) _).trans (hb.mono (by simp; omega))
  have hz := hb.size
  simp only [World.size_alloc] at hz
  have hz0 : w.heap.size < w1.heap.size := by omega
  have hz1 : w.heap.size + 1 < w1.heap.size := by omega
  obtain ⟨hc, hf⟩ := bcell hb
  have hr0 : w1.cell? ⟨w.heap.size + 1, 0, none⟩ = some (.bool false) := by rw [hc _ 0 (by simp)]; simp
  have hr1 : w1.cell? ⟨w.heap.size + 1, 1, none⟩ = some (.int .i64 0) := by rw [hc _ 1 (by simp)]; simp
  by_cases hh : hit ts key = true
  · obtain ⟨t, ht, _, _⟩ := fnd_some hh
    have hle : lowb ts key < n := by rw [← HN.out]; exact (List.getElem?_eq_some_iff.1 ht).1
    have HW := Lib.hid (strideV_hit ht hh)
    obtain ⟨k, hk⟩ : ∃ k, k = lowb ts key := ⟨_, rfl⟩
    rw [← hk] at ht hle
    rw [← hk]
    obtain ⟨ab, ao, rfl, hlo, hat⟩ := hs.at_ (by omega)
    have c1 : w1.cell? ⟨ab, ao + k * 5 + 1, none⟩ = some (.bool t.last.ref) := (hb1.cell (p := ⟨ab, _, none⟩) hlo).trans (hat k t ht 1 _ rfl)
    have c2 : w1.cell? ⟨ab, ao + k * 5 + 2, none⟩ = some (.int .i64 t.last.n) := (hb1.cell (p := ⟨ab, _, none⟩) hlo).trans (hat k t ht 2 _ rfl)
    have c3 : w1.cell? ⟨ab, ao + k * 5 + 3, none⟩ = some (.int .i64 t.stride) := (hb1.cell (p := ⟨ab, _, none⟩) hlo).trans (hat k t ht 3 _ rfl)
    have hlo1 : ab < w1.heap.size := by omega
    have HH := Lib.hid hh
    clear ht hat hk hh
    rw [HH.out]
    cases hr : t.last.ref
    · go_wp2
      go_region
      go_wp2
      refine bodyPost_ret (v := .tuple #[.agg #[.bool false, .int .i64 (wrap64 (t.last.n + t.stride))], .bool true]) (by simp [results, Try.results15, go_sem, hr0, hr1, World.cell?_alloc_lt, hz1]) rfl ⟨?_, ?_⟩
      · rw [HW.out, HH.out, hr]; rfl
      · exact (by repeat (first | (with_reducible exact hb1) | (with_reducible refine Below.drew ?_) | (with_reducible refine below_drewN ?_ _) | (with_reducible refine Below.setCell ?_ ?_ _; rotate_left; (simp <;> omega)) | (with_reducible refine Below.alloc ?_ ?_ _; rotate_left; (simp <;> omega))))
    · go_wp2
      refine bodyPost_ret (v := .tuple #[.agg #[.bool true, .int .i64 t.last.n], .bool true]) (by simp [results, Try.results15, go_sem, hr0, hr1, World.cell?_alloc_lt, hz1]) rfl ⟨by rw [HW.out, HH.out, if_pos hr, Val.value, hr], ?_⟩
      exact (by repeat (first | (with_reducible exact hb1) | (with_reducible refine Below.drew ?_) | (with_reducible refine below_drewN ?_ _) | (with_reducible refine Below.setCell ?_ ?_ _; rotate_left; (simp <;> omega)) | (with_reducible refine Below.alloc ?_ ?_ _; rotate_left; (simp <;> omega))))
  · have hh : hit ts key = false := by simpa using hh
    have HW := Lib.hid (strideV_miss hh)
    have HH := Lib.hid hh
    clear hh
    rw [HH.out]
    go_wp2
    refine bodyPost_ret (v := .tuple #[.agg #[.bool false, .int .i64 0], .bool false]) (by simp [results, Try.results15, go_sem, hr0, hr1]) rfl ⟨by rw [HW.out, HH.out]; rfl, ?_⟩
    exact (by repeat (first | (with_reducible exact hb1) | (with_reducible refine Below.drew ?_) | (with_reducible refine below_drewN ?_ _) | (with_reducible refine Below.setCell ?_ ?_ _; rotate_left; (simp <;> omega)) | (with_reducible refine Below.alloc ?_ ?_ _; rotate_left; (simp <;> omega))))
end Go.Proofs.Ytjioipecaemckaa
