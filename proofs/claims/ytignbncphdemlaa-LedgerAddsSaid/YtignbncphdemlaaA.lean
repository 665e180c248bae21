/- Small functions of the ledger. -/
import Derived.Test.YtignbncphdemlaaKit
import Derived.Test.YtignbncphdemlaaPlain
import Derived.Test.YtignbncphdemlaaCloneA
namespace Go.Proofs.Ytignbncphdemlaa
open Go.RowKit

theorem within_any (A : Option Addr) (n c : Nat) (k : Int) (w : World) (hn : n ≤ 1000000) :
    Calls Try.prog 31 #[.slice A n c, .int .i64 k] w fun e w' => e = .returned (.bool (inB n k)) ∧ Below w.heap.size w w' := by
  by_cases h0 : 0 ≤ k
  · by_cases h1 : k < n
    · have H := Lib.hid (inB_true h0 h1)
      go_enter Try.func31, Try.ntmps31
      go_wp2
      go_ret
      exact ⟨by rw [H.out]; rfl, Below.refl _ _⟩
    · have H := Lib.hid (inB_false (n := n) (k := k) (.inr (by omega)))
      go_enter Try.func31, Try.ntmps31
      go_wp2
      go_ret
      exact ⟨by rw [H.out]; rfl, Below.refl _ _⟩
  · have H := Lib.hid (inB_false (n := n) (k := k) (.inl (by omega)))
    go_enter Try.func31, Try.ntmps31
    go_wp2
    go_ret
    exact ⟨by rw [H.out]; rfl, Below.refl _ _⟩

theorem acc_one (l : List Acc) : ∀ u ∈ l.flatMap Acc.cells, u.oneCell' = true := by
  intro u hu
  obtain ⟨t, _, ht⟩ := List.mem_flatMap.1 hu
  simp [Acc.cells] at ht
  rcases ht with rfl | rfl | rfl | rfl | rfl | rfl | rfl | rfl <;> rfl
theorem shr_one (l : List Shr) : ∀ u ∈ l.flatMap Shr.cells, u.oneCell' = true := by
  intro u hu
  obtain ⟨t, _, ht⟩ := List.mem_flatMap.1 hu
  simp [Shr.cells] at ht
  rcases ht with rfl | rfl <;> rfl

theorem rep_cells : ∀ n, (List.replicate n zero).flatMap Acc.cells = List.replicate (n * 8) (Value.int .i64 0)
  | 0 => rfl
  | n + 1 => by
    rw [List.replicate_succ, List.flatMap_cons, rep_cells n, Nat.add_mul, Nat.add_comm, ← List.replicate_append_replicate]
    rfl
theorem made_same (m N : Nat) (hm : 0 < m) (v : Value) : (madeCells (Array.replicate m v) N).toList = List.replicate N v := by
  apply List.ext_getElem?
  intro j
  by_cases hj : j < N
  · have := Nat.mod_lt j hm
    simp [madeCells, hj, this]
  · simp [madeCells, hj]

/-- What a call leaves that gives accounts. -/
def GivesA (l : List Acc) (w : World) (e : Ending) (w' : World) : Prop := ∃ A' c', e = .returned (.tuple #[.slice A' l.length c', .int .i64 0]) ∧ Sl w' w'.heap.size 8 Acc.cells A' l.length l ∧ Below w.heap.size w w' ∧ (0 < l.length → ∀ ad, A' = some ad → w.heap.size ≤ ad.block)

set_option maxHeartbeats 400000 in
theorem new_any (n : Nat) (w : World) (h1 : 1 ≤ n) (h8 : n ≤ 8) :
    Calls Try.prog 8 #[.int .i64 n] w (GivesA (List.replicate n zero) w) := by
  obtain ⟨i0, hi, hz0, hz1, hz2⟩ := info_parts CloneAcc.infoE
  go_enter Try.func8, Try.ntmps8
  go_wp2_with (at_make; refine wpList_make_full _ rfl _ _ 26 rfl w.heap.size 41 i0 _ 8 Try.underlying26 hi hz0 hz1 .i64 .i64 n n n rfl rfl rfl rfl (by rw [hz2]; omega) (by unfold maxLen; omega) (Nat.le_refl _) ?_; intro w1 hown1 hgr1)
  go_ret2
  have hrow : (madeCells (Value.cells (.agg #[.int .i64 0, .int .i64 0, .int .i64 0, .int .i64 0, .int .i64 0, .int .i64 0, .int .i64 0, .int .i64 0])) (n * 8)).toList = (List.replicate n zero).flatMap Acc.cells := by
    rw [rep_cells]
    exact made_same 8 (n * 8) (by omega) _
  rw [hrow] at hown1
  refine ⟨some ⟨w.heap.size, 0, none⟩, n, by rw [List.length_replicate]; rfl, ?_, below_of_grown hgr1 (Nat.le_refl _) (by intro k hk; cases hk), fun _ => by rintro ad ⟨⟩; exact Nat.le_refl _⟩
  rw [List.length_replicate]
  exact Sl.of_own Acc.size (List.length_replicate ..) hown1
end Go.Proofs.Ytignbncphdemlaa
