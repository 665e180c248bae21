/- LedgerMoves: helpers. -/
import Derived.Test.YtignbncphdemlaaW
import Derived.Test.YtignbncphdemlaaT
import Derived.Test.YtignbncphdemlaaU
import Derived.Test.YtignbncphdemlaaP
import Derived.Test.YtignbncphdemlaaSameA
import Derived.Test.YtignbncphdemlaaSameS
namespace Go.Proofs.Ytignbncphdemlaa
open Go.RowKit

def intCells (z : Int) : List Value := [.int .i64 z]
def newE (k : Int) : List Acc × Int := if 1 ≤ k ∧ k ≤ 8 then (List.replicate k.toNat zero, 0) else ([], 2)
theorem gives_new {n : Nat} {w : World} {e : Ending} {w' : World} (h : GivesA (List.replicate n zero) w e w') (h1 : 1 ≤ n) (h8 : n ≤ 8) : GivesE (newE n) w e w' := by
  have he : newE n = (List.replicate n zero, 0) := by rw [newE, if_pos (by omega)]; rfl
  rw [he]
  exact h
theorem new_all (k : Int) (w : World) : Calls Try.prog 8 #[.int .i64 k] w (GivesE (newE k) w) := by
  by_cases h : 1 ≤ k ∧ k ≤ 8
  · obtain ⟨n, rfl⟩ := Int.eq_ofNat_of_zero_le (show 0 ≤ k by omega)
    exact (new_any n w (by omega) (by omega)).mono fun e w' h2 => gives_new h2 (by omega) (by omega)
  · have he := Lib.hid (show newE k = ([], 2) from by rw [newE, if_neg h])
    by_cases h1 : 1 ≤ k
    · have h2 : 8 < k := by omega
      go_enter Try.func8, Try.ntmps8
      go_wp2
      go_ret2
      rw [he.out]
      exact ⟨none, 0, rfl, Sl.nil, Below.refl _ _, fun h => absurd h (by decide)⟩
    · have h2 : k < 1 := by omega
      go_enter Try.func8, Try.ntmps8
      go_wp2
      go_ret2
      rw [he.out]
      exact ⟨none, 0, rfl, Sl.nil, Below.refl _ _, fun h => absurd h (by decide)⟩
theorem refnew_all (k : Int) (w : World) : Calls Try.prog 26 #[.int .i64 k] w (GivesE (newE k) w) := by
  by_cases h : 1 ≤ k ∧ k ≤ 8
  · obtain ⟨n, rfl⟩ := Int.eq_ofNat_of_zero_le (show 0 ≤ k by omega)
    exact (newref_any n w (by omega) (by omega)).mono fun e w' h2 => gives_new h2 (by omega) (by omega)
  · have he := Lib.hid (show newE k = ([], 2) from by rw [newE, if_neg h])
    by_cases h1 : 1 ≤ k
    · have h2 : 8 < k := by omega
      go_enter Try.func26, Try.ntmps26
      go_wp2
      go_ret2
      rw [he.out]
      exact ⟨none, 0, rfl, Sl.nil, Below.refl _ _, fun h => absurd h (by decide)⟩
    · have h2 : k < 1 := by omega
      go_enter Try.func26, Try.ntmps26
      go_wp2
      go_ret2
      rw [he.out]
      exact ⟨none, 0, rfl, Sl.nil, Below.refl _ _, fun h => absurd h (by decide)⟩
theorem newE_len (k : Int) : (newE k).1.length ≤ 8 := by
  rw [newE]; split
  · simp; omega
  · simp
theorem moveE_len {f : Nat} (hf : f < 7) (l : List Acc) (s : List Shr) {T : Int} (hok : Ok T l) : (moveE f l s).1.length ≤ l.length := by
  rw [moveE]
  split
  · simp
  · cases h : moveL f l s with
    | none => simp [resE]
    | some l' => simp only [resE]; rw [(moveL_inv hf h hok).1]; exact Nat.le_refl _
theorem loseE_len (k : Int) (l : List Acc) (s : List Shr) {T : Int} (hok : Ok T l) : (loseE k l s).1.length ≤ l.length := by
  rw [loseE]
  split
  · exact moveE_len (by omega) l s hok
  · simp
theorem stepE_len (l : List Acc) (k : Int) : (stepE l k).1.length ≤ l.length := by
  rw [stepE]
  split
  · rw [step_len]; exact Nat.le_refl _
  · simp
/-- A list of shares that the laws may be asked about. -/
def Nice (w : World) (j : Job) : Prop := Sl w w.heap.size 2 Shr.cells j.A j.n j.s ∧ OkS j.s ∧ j.n ≤ 31 ∧ j.n ≤ j.c ∧ (j.A = none → j.c = 0)
theorem Nice.up {w w' : World} {j : Job} (h : Nice w j) (hb : Below w.heap.size w w') : Nice w' j := ⟨h.1.up hb, h.2⟩
theorem tot_sum (l : List Acc) {T : Int} (h : Ok T l) (hT : 0 ≤ T) : ∀ k : Nat, tot (totF (l.take k)) ≤ T * k
  | 0 => by simp [tot, totF]
  | k + 1 => by
    have ih := tot_sum l h hT k
    have e : T * ((k + 1 : Nat) : Int) = T * (k : Int) + T := by rw [Int.natCast_add, Int.mul_add]; simp
    cases hl : l[k]? with
    | none =>
      have e2 : l.take (k + 1) = l.take k := by rw [List.take_add_one, hl]; simp
      rw [e2, e]; omega
    | some x =>
      have := (h k x hl).2
      simp only [tot, totF_snoc hl] at ih this ⊢
      omega
theorem tot_ok {l : List Acc} {n : Nat} (h : Ok 30 l) (hl : l.length = n) (hn : n ≤ 4) : OkA 1000 (totF l) := by
  have h1 := tot_sum l h (by omega) n
  rw [List.take_of_length_le (by omega)] at h1
  refine ⟨fun j hj => ?_, by omega⟩
  have := totF_bnd h (by omega) j hj n
  rw [List.take_of_length_le (by omega)] at this
  exact this.1
end Go.Proofs.Ytignbncphdemlaa
