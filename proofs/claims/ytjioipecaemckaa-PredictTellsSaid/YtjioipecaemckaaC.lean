/- Last and Stride, of the program and of the reference. -/
import Derived.Test.YtjioipecaemckaaB
namespace Go.Proofs.Ytjioipecaemckaa
open Go.RowKit

theorem lastV_hit {ts : List Trk} {k : Int} {t : Trk} (h : ts[lowb ts k]? = some t) (hh : hit ts k = true) : lastV ts k = t.last := by simp [lastV, fnd, hh, h]
theorem lastV_miss {ts : List Trk} {k : Int} (hh : hit ts k = false) : lastV ts k = ⟨false, 0⟩ := by simp [lastV, fnd, hh]
theorem strideV_hit {ts : List Trk} {k : Int} {t : Trk} (h : ts[lowb ts k]? = some t) (hh : hit ts k = true) : strideV ts k = if t.last.ref then t.last else ⟨false, wrap64 (t.last.n + t.stride)⟩ := by simp [strideV, fnd, hh, h]
theorem strideV_miss {ts : List Trk} {k : Int} (hh : hit ts k = false) : strideV ts k = ⟨false, 0⟩ := by simp [strideV, fnd, hh]

set_option maxHeartbeats 400000 in
theorem last_any (A : Option Addr) (n c : Nat) (ts : List Trk) (key : Int) (w : World) (hs : Sl w w.heap.size 5 Trk.cells A n ts) (hn : n ≤ 1000000) (hsort : Sorted ts) :
    Calls Try.prog 12 #[.agg #[.slice A n c], .int .i64 key] w fun e w' => e = .returned (.tuple #[(lastV ts key).value, .bool (hit ts key)]) ∧ Below w.heap.size w w' := by
  have HS := Lib.hid hsort
  have HN := Lib.hid hs.len
  clear hsort
  go_enter Try.func12, Try.ntmps12
  go_wp2_with fail
  refine (find_any A n c ts key _ ((hs.below (((Below.refl _ _).alloc (Nat.le_refl _) _).alloc (by simp) _)).mono (by simp <;> omega)) hn HS.out).mono ?_
  rintro e w' ⟨rfl, hb⟩
  have hb1 : Below w.heap.size w w' := (((Below.refl _ _).alloc (Nat.le_refl _) _).alloc (by simp) _).trans (hb.mono (by simp; omega))
  have hz := hb.size
  simp only [World.size_alloc] at hz
  have hp : w'.cell? ⟨w.heap.size, 0, none⟩ = some (.slice A n c) := (hb.cell (p := ⟨w.heap.size, 0, none⟩) (by simp <;> omega)).trans (by simp [World.cell?_alloc_lt])
  have hr0 : w'.cell? ⟨w.heap.size + 1, 0, none⟩ = some (.bool false) := (hb.cell (p := ⟨w.heap.size + 1, 0, none⟩) (by simp)).trans (by simp)
  have hr1 : w'.cell? ⟨w.heap.size + 1, 1, none⟩ = some (.int .i64 0) := (hb.cell (p := ⟨w.heap.size + 1, 1, none⟩) (by simp)).trans (by simp)
  have hf : w'.frozen? ⟨w.heap.size + 1, 0, none⟩ = false := (hb.frozen (p := ⟨w.heap.size + 1, 0, none⟩) (by simp)).trans (by simp)
  have hf1 : w'.frozen? ⟨w.heap.size + 1, 1, none⟩ = false := (hb.frozen (p := ⟨w.heap.size + 1, 1, none⟩) (by simp)).trans (by simp)
  by_cases hh : hit ts key = true
  · obtain ⟨t, ht, _, _⟩ := fnd_some hh
    have hle : lowb ts key < n := by rw [← HN.out]; exact (List.getElem?_eq_some_iff.1 ht).1
    have HV := Lib.hid (lastV_hit ht hh)
    obtain ⟨k, hk⟩ : ∃ k, k = lowb ts key := ⟨_, rfl⟩
    rw [← hk] at ht hle
    rw [← hk]
    obtain ⟨ab, ao, rfl, hlo, hat⟩ := hs.at_ (by omega)
    have c1 : w'.cell? ⟨ab, ao + k * 5 + 1, none⟩ = some (.bool t.last.ref) := (hb1.cell (p := ⟨ab, _, none⟩) hlo).trans (hat k t ht 1 _ rfl)
    have c2 : w'.cell? ⟨ab, ao + k * 5 + 2, none⟩ = some (.int .i64 t.last.n) := (hb1.cell (p := ⟨ab, _, none⟩) hlo).trans (hat k t ht 2 _ rfl)
    have HH := Lib.hid hh
    clear ht hat hk hh
    rw [HH.out]
    go_wp2
    refine bodyPost_ret (v := .tuple #[.agg #[.bool t.last.ref, .int .i64 t.last.n], .bool true]) (by simp [results, Try.results12, go_sem, hr0, hr1]) rfl ⟨by rw [HV.out, HH.out]; rfl, ?_⟩
    exact (hb1.setCell (by simp) _).setCell (by simp) _
  · have hh : hit ts key = false := by simpa using hh
    have HV := Lib.hid (lastV_miss hh)
    have HH := Lib.hid hh
    clear hh
    rw [HH.out]
    go_wp2
    refine bodyPost_ret (v := .tuple #[.agg #[.bool false, .int .i64 0], .bool false]) (by simp [results, Try.results12, go_sem, hr0, hr1]) rfl ⟨by rw [HV.out, HH.out]; rfl, ?_⟩
    exact (hb1.setCell (by simp) _).setCell (by simp) _

set_option maxHeartbeats 400000 in
theorem reflast_any (A : Option Addr) (n c : Nat) (ts : List Trk) (key : Int) (w : World) (hs : Sl w w.heap.size 5 Trk.cells A n ts) (hn : n ≤ 1000000) :
    Calls Try.prog 13 #[.agg #[.slice A n c], .int .i64 key] w fun e w' => e = .returned (.tuple #[(lastV ts key).value, .bool (hit ts key)]) ∧ Below w.heap.size w w' := by
  have HN := Lib.hid hs.len
  go_enter Try.func13, Try.ntmps13
  go_wp2_with fail
  refine (at_any A n c ts key _ ((hs.below (((Below.refl _ _).alloc (Nat.le_refl _) _).alloc (by simp) _)).mono (by simp <;> omega)) hn).mono ?_
  rintro e w' ⟨rfl, hb⟩
  have hb1 : Below w.heap.size w w' := (((Below.refl _ _).alloc (Nat.le_refl _) _).alloc (by simp) _).trans (hb.mono (by simp; omega))
  have hz := hb.size
  simp only [World.size_alloc] at hz
  have hp : w'.cell? ⟨w.heap.size, 0, none⟩ = some (.slice A n c) := (hb.cell (p := ⟨w.heap.size, 0, none⟩) (by simp <;> omega)).trans (by simp [World.cell?_alloc_lt])
  have hr0 : w'.cell? ⟨w.heap.size + 1, 0, none⟩ = some (.bool false) := (hb.cell (p := ⟨w.heap.size + 1, 0, none⟩) (by simp)).trans (by simp)
  have hr1 : w'.cell? ⟨w.heap.size + 1, 1, none⟩ = some (.int .i64 0) := (hb.cell (p := ⟨w.heap.size + 1, 1, none⟩) (by simp)).trans (by simp)
  have hf : w'.frozen? ⟨w.heap.size + 1, 0, none⟩ = false := (hb.frozen (p := ⟨w.heap.size + 1, 0, none⟩) (by simp)).trans (by simp)
  have hf1 : w'.frozen? ⟨w.heap.size + 1, 1, none⟩ = false := (hb.frozen (p := ⟨w.heap.size + 1, 1, none⟩) (by simp)).trans (by simp)
  by_cases hh : hit ts key = true
  · obtain ⟨t, ht, _, _⟩ := fnd_some hh
    have hle : lowb ts key < n := by rw [← HN.out]; exact (List.getElem?_eq_some_iff.1 ht).1
    have HV := Lib.hid (lastV_hit ht hh)
    obtain ⟨k, hk⟩ : ∃ k, k = lowb ts key := ⟨_, rfl⟩
    rw [← hk] at ht hle
    rw [← hk]
    obtain ⟨ab, ao, rfl, hlo, hat⟩ := hs.at_ (by omega)
    have c1 : w'.cell? ⟨ab, ao + k * 5 + 1, none⟩ = some (.bool t.last.ref) := (hb1.cell (p := ⟨ab, _, none⟩) hlo).trans (hat k t ht 1 _ rfl)
    have c2 : w'.cell? ⟨ab, ao + k * 5 + 2, none⟩ = some (.int .i64 t.last.n) := (hb1.cell (p := ⟨ab, _, none⟩) hlo).trans (hat k t ht 2 _ rfl)
    have HH := Lib.hid hh
    clear ht hat hk hh
    rw [HH.out]
    go_wp2
    refine bodyPost_ret (v := .tuple #[.agg #[.bool t.last.ref, .int .i64 t.last.n], .bool true]) (by simp [results, Try.results13, go_sem, hr0, hr1]) rfl ⟨by rw [HV.out, HH.out]; rfl, ?_⟩
    exact (hb1.setCell (by simp) _).setCell (by simp) _
  · have hh : hit ts key = false := by simpa using hh
    have HV := Lib.hid (lastV_miss hh)
    have HH := Lib.hid hh
    clear hh
    rw [HH.out]
    go_wp2
    refine bodyPost_ret (v := .tuple #[.agg #[.bool false, .int .i64 0], .bool false]) (by simp [results, Try.results13, go_sem, hr0, hr1]) rfl ⟨by rw [HV.out, HH.out]; rfl, ?_⟩
    exact (hb1.setCell (by simp) _).setCell (by simp) _
end Go.Proofs.Ytjioipecaemckaa
