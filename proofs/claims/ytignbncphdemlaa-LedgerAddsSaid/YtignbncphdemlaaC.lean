/- Sums: of shares, of what an account has lost. -/
import Derived.Test.YtignbncphdemlaaKit2
import Derived.Test.YtignbncphdemlaaPlain
namespace Go.Proofs.Ytignbncphdemlaa
open Go.RowKit

def psum (a : Acc) : Nat → Int
  | 0 => 0
  | 1 => a 1
  | 2 => a 1 + a 2
  | 3 => a 1 + a 2 + a 3
  | 4 => a 1 + a 2 + a 3 + a 4
  | 5 => a 1 + a 2 + a 3 + a 4 + a 5
  | _ => a 1 + a 2 + a 3 + a 4 + a 5 + a 6
theorem sum_succ {l : List Shr} {k : Nat} {x : Shr} (h : l[k]? = some x) : sumS (l.take (k + 1)) = sumS (l.take k) + x.steps := by
  rw [List.take_add_one, h, sumS, List.map_append, List.foldl_append]
  rfl
theorem sum_le {l : List Shr} (hl : ∀ (i : Nat) (x : Shr), l[i]? = some x → -1125899906842624 ≤ x.steps ∧ x.steps ≤ 1125899906842624) : ∀ k : Nat, -(1125899906842624 * (k : Int)) ≤ sumS (l.take k) ∧ sumS (l.take k) ≤ 1125899906842624 * (k : Int)
  | 0 => by simp [sumS]
  | k + 1 => by
    have ih := sum_le hl k
    cases h : l[k]? with
    | none =>
      have e : l.take (k + 1) = l.take k := by rw [List.take_add_one, h]; simp
      rw [e]; omega
    | some x => rw [sum_succ h]; have := hl k x h; omega

set_option maxHeartbeats 400000 in
theorem lost_any (a : Acc) (T : Int) (hT : T ≤ 1000000000) (ha : OkA T a) (w : World) : Calls Try.prog 28 #[.agg #[.int .i64 (a 0), .int .i64 (a 1), .int .i64 (a 2), .int .i64 (a 3), .int .i64 (a 4), .int .i64 (a 5), .int .i64 (a 6), .int .i64 (a 7)]] w fun e w' => e = .returned (.int .i64 (lostA a)) ∧ Below w.heap.size w w' := by
  have hl := ha.le
  obtain ⟨b10, b11⟩ := hl 1 (by omega)
  obtain ⟨b20, b21⟩ := hl 2 (by omega)
  obtain ⟨b30, b31⟩ := hl 3 (by omega)
  obtain ⟨b40, b41⟩ := hl 4 (by omega)
  obtain ⟨b50, b51⟩ := hl 5 (by omega)
  obtain ⟨b60, b61⟩ := hl 6 (by omega)
  clear hl ha
  go_enter Try.func28, Try.ntmps28
  go_wp2_with fail
  go_loopw [3, 8] (fun s i wr => ∃ k : Nat, k ≤ 6 ∧ i = .int .i64 k ∧ s = .int .i64 (psum a k) ∧ Below w.heap.size w wr ∧ w.heap.size < wr.heap.size ∧ (∀ j, j < 8 → wr.cell? ⟨w.heap.size, j, none⟩ = some (.int .i64 (a j)))) (fun s i _ => 6 - (intOf i).toNat)
  case atStart => exact ⟨0, by omega, rfl, rfl, (by repeat (first | (with_reducible exact (Below.refl _ _)) | (with_reducible refine Below.drew ?_) | (with_reducible refine below_drewN ?_ _) | (with_reducible refine Below.setCell ?_ ?_ _; rotate_left; (first | omega | (simp <;> omega))) | (with_reducible refine Below.alloc ?_ ?_ _; rotate_left; (first | omega | (simp <;> omega))))), by simp, fun j hj => by rw [cell_new _ _ _ _ _ rfl, ← Array.getElem?_toList]; exact Acc.at_ a j hj⟩
  case round =>
    obtain ⟨k, hk, rfl, rfl, hb, hz, hc⟩ := hrel
    have r1 := hc 1 (by omega)
    have r2 := hc 2 (by omega)
    have r3 := hc 3 (by omega)
    have r4 := hc 4 (by omega)
    have r5 := hc 5 (by omega)
    have r6 := hc 6 (by omega)
    have HC := Lib.hid hc
    clear hc
    match k, hk with
    | 0, _ =>
      have i0 : ∀ w, (Instr.index 39 (.agg #[.int .i64 (a 1), .int .i64 (a 2), .int .i64 (a 3), .int .i64 (a 4), .int .i64 (a 5), .int .i64 (a 6)]) (.int .i64 0)).run Try.prog w = .ok (.int .i64 (a 1)) w := fun _ => by kernel_rfl
      simp only [psum]
      go_wp2
      go_roundw
      case rel => exact ⟨1, by omega, rfl, by simp [psum], hb, hz, HC.out⟩
      case measure => simp [intOf]
    | 1, _ =>
      have i0 : ∀ w, (Instr.index 39 (.agg #[.int .i64 (a 1), .int .i64 (a 2), .int .i64 (a 3), .int .i64 (a 4), .int .i64 (a 5), .int .i64 (a 6)]) (.int .i64 1)).run Try.prog w = .ok (.int .i64 (a 2)) w := fun _ => by kernel_rfl
      simp only [psum]
      go_wp2
      go_roundw
      case rel => exact ⟨2, by omega, rfl, by simp [psum], hb, hz, HC.out⟩
      case measure => simp [intOf]
    | 2, _ =>
      have i0 : ∀ w, (Instr.index 39 (.agg #[.int .i64 (a 1), .int .i64 (a 2), .int .i64 (a 3), .int .i64 (a 4), .int .i64 (a 5), .int .i64 (a 6)]) (.int .i64 2)).run Try.prog w = .ok (.int .i64 (a 3)) w := fun _ => by kernel_rfl
      simp only [psum]
      go_wp2
      go_roundw
      case rel => exact ⟨3, by omega, rfl, by simp [psum], hb, hz, HC.out⟩
      case measure => simp [intOf]
    | 3, _ =>
      have i0 : ∀ w, (Instr.index 39 (.agg #[.int .i64 (a 1), .int .i64 (a 2), .int .i64 (a 3), .int .i64 (a 4), .int .i64 (a 5), .int .i64 (a 6)]) (.int .i64 3)).run Try.prog w = .ok (.int .i64 (a 4)) w := fun _ => by kernel_rfl
      simp only [psum]
      go_wp2
      go_roundw
      case rel => exact ⟨4, by omega, rfl, by simp [psum], hb, hz, HC.out⟩
      case measure => simp [intOf]
    | 4, _ =>
      have i0 : ∀ w, (Instr.index 39 (.agg #[.int .i64 (a 1), .int .i64 (a 2), .int .i64 (a 3), .int .i64 (a 4), .int .i64 (a 5), .int .i64 (a 6)]) (.int .i64 4)).run Try.prog w = .ok (.int .i64 (a 5)) w := fun _ => by kernel_rfl
      simp only [psum]
      go_wp2
      go_roundw
      case rel => exact ⟨5, by omega, rfl, by simp [psum], hb, hz, HC.out⟩
      case measure => simp [intOf]
    | 5, _ =>
      have i0 : ∀ w, (Instr.index 39 (.agg #[.int .i64 (a 1), .int .i64 (a 2), .int .i64 (a 3), .int .i64 (a 4), .int .i64 (a 5), .int .i64 (a 6)]) (.int .i64 5)).run Try.prog w = .ok (.int .i64 (a 6)) w := fun _ => by kernel_rfl
      simp only [psum]
      go_wp2
      go_roundw
      case rel => exact ⟨6, by omega, rfl, by simp [psum], hb, hz, HC.out⟩
      case measure => simp [intOf]
    | 6, _ =>
      simp only [psum]
      go_wp2
      go_ret
      exact ⟨by simp [lostA], hb⟩
    | k + 7, h => exact absurd h (by omega)
set_option maxHeartbeats 400000 in
theorem reflost_any (a : Acc) (T : Int) (hT : T ≤ 1000000000) (ha : OkA T a) (w : World) : Calls Try.prog 29 #[.agg #[.int .i64 (a 0), .int .i64 (a 1), .int .i64 (a 2), .int .i64 (a 3), .int .i64 (a 4), .int .i64 (a 5), .int .i64 (a 6), .int .i64 (a 7)]] w fun e w' => e = .returned (.int .i64 (lostA a)) ∧ Below w.heap.size w w' := by
  have hl := ha.le
  obtain ⟨b10, b11⟩ := hl 1 (by omega)
  obtain ⟨b20, b21⟩ := hl 2 (by omega)
  obtain ⟨b30, b31⟩ := hl 3 (by omega)
  obtain ⟨b40, b41⟩ := hl 4 (by omega)
  obtain ⟨b50, b51⟩ := hl 5 (by omega)
  obtain ⟨b60, b61⟩ := hl 6 (by omega)
  clear hl ha
  go_enter Try.func29, Try.ntmps29
  go_wp2_with fail
  go_loopw [3, 4] (fun s i wr => ∃ k : Nat, k ≤ 6 ∧ i = .int .i64 k ∧ s = .int .i64 (psum a k) ∧ Below w.heap.size w wr ∧ w.heap.size < wr.heap.size ∧ (∀ j, j < 8 → wr.cell? ⟨w.heap.size, j, none⟩ = some (.int .i64 (a j)))) (fun s i _ => 6 - (intOf i).toNat)
  case atStart => exact ⟨0, by omega, rfl, rfl, (by repeat (first | (with_reducible exact (Below.refl _ _)) | (with_reducible refine Below.drew ?_) | (with_reducible refine below_drewN ?_ _) | (with_reducible refine Below.setCell ?_ ?_ _; rotate_left; (first | omega | (simp <;> omega))) | (with_reducible refine Below.alloc ?_ ?_ _; rotate_left; (first | omega | (simp <;> omega))))), by simp, fun j hj => by rw [cell_new _ _ _ _ _ rfl, ← Array.getElem?_toList]; exact Acc.at_ a j hj⟩
  case round =>
    obtain ⟨k, hk, rfl, rfl, hb, hz, hc⟩ := hrel
    have r1 := hc 1 (by omega)
    have r2 := hc 2 (by omega)
    have r3 := hc 3 (by omega)
    have r4 := hc 4 (by omega)
    have r5 := hc 5 (by omega)
    have r6 := hc 6 (by omega)
    have HC := Lib.hid hc
    clear hc
    match k, hk with
    | 0, _ =>
      simp only [psum]
      go_wp2
      go_roundw
      case rel => exact ⟨1, by omega, rfl, by simp [psum], hb, hz, HC.out⟩
      case measure => simp [intOf]
    | 1, _ =>
      simp only [psum]
      go_wp2
      go_roundw
      case rel => exact ⟨2, by omega, rfl, by simp [psum], hb, hz, HC.out⟩
      case measure => simp [intOf]
    | 2, _ =>
      simp only [psum]
      go_wp2
      go_roundw
      case rel => exact ⟨3, by omega, rfl, by simp [psum], hb, hz, HC.out⟩
      case measure => simp [intOf]
    | 3, _ =>
      simp only [psum]
      go_wp2
      go_roundw
      case rel => exact ⟨4, by omega, rfl, by simp [psum], hb, hz, HC.out⟩
      case measure => simp [intOf]
    | 4, _ =>
      simp only [psum]
      go_wp2
      go_roundw
      case rel => exact ⟨5, by omega, rfl, by simp [psum], hb, hz, HC.out⟩
      case measure => simp [intOf]
    | 5, _ =>
      simp only [psum]
      go_wp2
      go_roundw
      case rel => exact ⟨6, by omega, rfl, by simp [psum], hb, hz, HC.out⟩
      case measure => simp [intOf]
    | 6, _ =>
      simp only [psum]
      go_wp2
      go_ret
      exact ⟨by simp [lostA], hb⟩
    | k + 7, h => exact absurd h (by omega)
set_option maxHeartbeats 400000 in
theorem sum_any (A : Option Addr) (n c : Nat) (l : List Shr) (w : World) (hs : Sl w w.heap.size 2 Shr.cells A n l) (hn : n ≤ 1000) (hl : ∀ (i : Nat) (x : Shr), l[i]? = some x → -1125899906842624 ≤ x.steps ∧ x.steps ≤ 1125899906842624) :
    Calls Try.prog 18 #[.slice A n c] w fun e w' => e = .returned (.int .i64 (sumS l)) ∧ Below w.heap.size w w' := by
  have HL := Lib.hid hs.len
  have HB := Lib.hid hl
  clear hl
  go_enter Try.func18, Try.ntmps18
  go_wp2_with fail
  go_loopw [3, 8] (fun s i wr => ∃ k : Nat, k ≤ n ∧ i = .int .i64 k ∧ s = .int .i64 (sumS (l.take k)) ∧ Below w.heap.size w wr) (fun s i _ => n - (intOf i).toNat)
  case atStart => exact ⟨0, by omega, rfl, by rw [List.take_zero]; rfl, Below.refl _ _⟩
  case round =>
    obtain ⟨k, hk, rfl, rfl, hb⟩ := hrel
    have hzz := hb.size
    by_cases hlt : k < n
    · obtain ⟨ab, ao, rfl, hlo, hat⟩ := hs.at_ (by omega)
      obtain ⟨x, hx⟩ : ∃ x, l[k]? = some x := ⟨_, List.getElem?_eq_getElem (by rw [HL.out]; exact hlt)⟩
      have c0 : wr.cell? ⟨ab, ao + k * 2, none⟩ = some (.int .i64 x.worker) := (hb.cell (p := ⟨ab, _, none⟩) hlo).trans (hat k x hx 0 _ rfl)
      have c1 : wr.cell? ⟨ab, ao + k * 2 + 1, none⟩ = some (.int .i64 x.steps) := (hb.cell (p := ⟨ab, _, none⟩) hlo).trans (hat k x hx 1 _ rfl)
      obtain ⟨b0, b1⟩ := HB.out k x hx
      obtain ⟨s0, s1⟩ := sum_le HB.out k
      have hs1 := sum_succ hx
      have HS1 := Lib.hid hs1
      have hk1000 : k ≤ 1000 := by omega
      obtain ⟨z, hz⟩ : ∃ z, z = sumS (l.take k) := ⟨_, rfl⟩
      rw [← hz] at s0 s1 ⊢
      have hz1 : z ≤ 1125899906842624000 := by omega
      have hz0 : -1125899906842624000 ≤ z := by omega
      have HZ := Lib.hid hz
      clear hx hs1 s0 s1 hat hz
      go_wp2
      go_roundw
      case rel => exact ⟨k + 1, by omega, by go_num, by rw [HS1.out, ← HZ.out], (by repeat (first | (with_reducible exact hb) | (with_reducible refine Below.drew ?_) | (with_reducible refine below_drewN ?_ _) | (with_reducible refine Below.setCell ?_ ?_ _; rotate_left; (first | omega | (simp <;> omega))) | (with_reducible refine Below.alloc ?_ ?_ _; rotate_left; (first | omega | (simp <;> omega)))))⟩
      case measure => simp [intOf]; omega
    · obtain rfl : k = n := by omega
      have HE := Lib.hid (show l.take k = l from List.take_of_length_le (by rw [HL.out]; exact Nat.le_refl _))
      go_wp2
      go_ret
      exact ⟨by rw [HE.out]; rfl, hb⟩
set_option maxHeartbeats 400000 in
theorem refsum_any (A : Option Addr) (n c : Nat) (l : List Shr) (w : World) (hs : Sl w w.heap.size 2 Shr.cells A n l) (hn : n ≤ 1000) (hl : ∀ (i : Nat) (x : Shr), l[i]? = some x → -1125899906842624 ≤ x.steps ∧ x.steps ≤ 1125899906842624) :
    Calls Try.prog 21 #[.slice A n c] w fun e w' => e = .returned (.int .i64 (sumS l)) ∧ Below w.heap.size w w' := by
  have HL := Lib.hid hs.len
  have HB := Lib.hid hl
  clear hl
  go_enter Try.func21, Try.ntmps21
  go_wp2_with fail
  go_loopw [3, 4] (fun s i wr => ∃ k : Nat, k ≤ n ∧ i = .int .i64 k ∧ s = .int .i64 (sumS (l.take k)) ∧ Below w.heap.size w wr) (fun s i _ => n - (intOf i).toNat)
  case atStart => exact ⟨0, by omega, rfl, by rw [List.take_zero]; rfl, Below.refl _ _⟩
  case round =>
    obtain ⟨k, hk, rfl, rfl, hb⟩ := hrel
    have hzz := hb.size
    by_cases hlt : k < n
    · obtain ⟨ab, ao, rfl, hlo, hat⟩ := hs.at_ (by omega)
      obtain ⟨x, hx⟩ : ∃ x, l[k]? = some x := ⟨_, List.getElem?_eq_getElem (by rw [HL.out]; exact hlt)⟩
      have c0 : wr.cell? ⟨ab, ao + k * 2, none⟩ = some (.int .i64 x.worker) := (hb.cell (p := ⟨ab, _, none⟩) hlo).trans (hat k x hx 0 _ rfl)
      have c1 : wr.cell? ⟨ab, ao + k * 2 + 1, none⟩ = some (.int .i64 x.steps) := (hb.cell (p := ⟨ab, _, none⟩) hlo).trans (hat k x hx 1 _ rfl)
      obtain ⟨b0, b1⟩ := HB.out k x hx
      obtain ⟨s0, s1⟩ := sum_le HB.out k
      have hs1 := sum_succ hx
      have HS1 := Lib.hid hs1
      have hk1000 : k ≤ 1000 := by omega
      obtain ⟨z, hz⟩ : ∃ z, z = sumS (l.take k) := ⟨_, rfl⟩
      rw [← hz] at s0 s1 ⊢
      have hz1 : z ≤ 1125899906842624000 := by omega
      have hz0 : -1125899906842624000 ≤ z := by omega
      have HZ := Lib.hid hz
      clear hx hs1 s0 s1 hat hz
      go_wp2
      go_roundw
      case rel => exact ⟨k + 1, by omega, by go_num, by rw [HS1.out, ← HZ.out], hb⟩
      case measure => simp [intOf]; omega
    · obtain rfl : k = n := by omega
      have HE := Lib.hid (show l.take k = l from List.take_of_length_le (by rw [HL.out]; exact Nat.le_refl _))
      go_wp2
      go_ret
      exact ⟨by rw [HE.out]; rfl, hb⟩
end Go.Proofs.Ytignbncphdemlaa
