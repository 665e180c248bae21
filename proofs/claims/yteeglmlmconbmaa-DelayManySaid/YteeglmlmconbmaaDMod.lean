/- Mod, with a divisor above 0. -/
import Derived.Test.YteeglmlmconbmaaKit2
namespace Go.Proofs.Yteeglmlmconbmaa
open Go.RowKit
theorem tmod_facts (v : Int) (n : Nat) (h : 1 ≤ n) : (v.tmod n < 0 → v.tmod n + n = v % n) ∧ (¬ v.tmod n < 0 → v.tmod n = v % n) := by
  have hp : (0 : Int) < n := by omega
  have h1 := Int.tmod_lt_of_pos v hp
  have h2 := Int.lt_tmod_of_pos v hp
  have hd := Int.tmod_def v n
  have he : v % n = (v.tmod n) % n := by
    have h3 : v = v.tmod n + n * v.tdiv n := by omega
    conv => lhs; rw [h3]
    rw [Int.add_mul_emod_self_left]
  refine ⟨fun h0 => ?_, fun h0 => ?_⟩
  · rw [he, ← Int.add_emod_right, Int.emod_eq_of_lt (by omega) (by omega)]
  · rw [he, Int.emod_eq_of_lt (by omega) (by omega)]
/-- Mod, with a divisor above 0. -/
theorem mod_any (v : Int) (n : Nat) (w : World) (h0 : 1 ≤ n) (h1 : n ≤ 1000000) (hv : -9223372036854775808 ≤ v ∧ v ≤ 9223372036854775807) :
    Calls Try.prog 5 #[.int .i64 v, .int .i64 n] w fun e w' => ∃ r : Nat, r < n ∧ (r : Int) = v % n ∧ e = .returned (.int .i64 r) ∧ Below w.heap.size w w' := by
  have hp : (0 : Int) < n := by omega
  obtain ⟨r, hr⟩ : ∃ r : Nat, v % n = r := ⟨(v % n).toNat, by have := Int.emod_nonneg v (show (n : Int) ≠ 0 by omega); omega⟩
  have e1 := Int.emod_lt_of_pos v hp
  obtain ⟨t1, t2⟩ := tmod_facts v n h0
  have HT1 := Lib.hid t1
  have HT2 := Lib.hid t2
  have HV := Lib.hid hv
  have HR := Lib.hid hr
  have b1 := Int.tmod_lt_of_pos v hp
  have b2 := Int.lt_tmod_of_pos v hp
  have hrn : r < n := by omega
  clear t1 t2 hv e1 hr
  by_cases hn : v.tmod n < 0
  · go_enter Try.func5, Try.ntmps5
    go_wp2
    go_ret
    exact ⟨r, hrn, HR.out.symm, by rw [← HR.out, ← HT1.out hn]; rfl, Below.refl _ _⟩
  · go_enter Try.func5, Try.ntmps5
    go_wp2
    go_ret
    exact ⟨r, hrn, HR.out.symm, by rw [← HR.out, ← HT2.out hn]; rfl, Below.refl _ _⟩
end Go.Proofs.Yteeglmlmconbmaa