/- slices.Clone at elements of 2 cells: a row of the call's own that holds the same cells. Conditions: few elements. -/
import Derived.Test.YtfhpniafkkgibaaDoorKit
namespace Go.Proofs.YtfhpniafkkgibaaDoor
open Go.RowKit
namespace CloneVal
theorem infoE : (Tryd.prog.info? 26).map (fun i => (i.zero, i.size, i.bytes)) = some (some (.agg #[.bool false, .int .i64 0]), 2, 16) := by kernel_rfl
theorem any (A : Option Addr) (n c : Nat) (xs : List Value) (w : World) (hA : A = none → n = 0) (hsrc : ∀ ad, A = some ad → ∀ (j : Nat) (u : Value), xs[j]? = some u → w.cell? (ad.add j) = some u)
    (hl : xs.length = n * 2) (hn : n ≤ 8796093021952) (h1 : ∀ u ∈ xs, u.oneCell' = true) :
    Calls Tryd.prog 38 #[.slice A n c] w fun e w' => ∃ A' c', e = .returned (.slice A' n c') ∧ w'.ownsRow w.heap.size 26 2 (.slice A' n c') n xs ∧ Below w.heap.size w w' := by
  obtain ⟨i0, hi, hz0, hz1, hz2⟩ := info_parts infoE
  have HL := Lib.hid hl
  clear hl
  cases A with
  | none =>
    obtain rfl := hA rfl
    obtain rfl : xs = [] := List.eq_nil_of_length_eq_zero (by simpa using HL.out)
    have hnil := fun (w : World) => Lib.run_eql_slice_nil (P := Tryd.prog) w 37 26 none 0 c 0 0 Tryd.underlying37
    go_enter Tryd.func38, Tryd.ntmps38
    go_wp2
    go_ret
    exact ⟨none, 0, rfl, World.ownsRow_nil _ _ _ _, Below.refl _ _⟩
  | some ad =>
    have HS := Lib.hid (hsrc ad rfl)
    clear hsrc hA
    have hs1 : ∀ (j : Nat) (u : Value), xs[j]? = some u → (w.alloc (.cells #[] 26)).cell? (ad.add j) = some u := fun j u hu => by
      have h := HS.out j u hu
      exact (World.cell?_alloc_lt w _ _ (World.block_lt_of_cell? w _ h)).trans h
    have HS1 := Lib.hid hs1
    clear hs1
    have hnil := fun (w : World) => Lib.run_eql_slice_nil (P := Tryd.prog) w 37 26 (some ad) n c 0 0 Tryd.underlying37
    go_enter Tryd.func38, Tryd.ntmps38
    go_wp2_with (at_builtin; refine wpList_append_own _ rfl _ _ 37 rfl w.heap.size 26 i0 _ 2 16 Tryd.underlying37 hi hz0 hz1 hz2 rfl (by decide) _ _ _ rfl (World.ownsRow_made w #[] 0 (Nat.le_refl _) (by unfold maxLen; omega) rfl) ad n c xs rfl HL.out HS1.out h1 (by unfold maxLen; omega) (by omega) (by simp) ?_; intro v' w1 hown1 hgrow1 _)
    go_ret
    have hz := hgrow1.size
    rw [Nat.zero_add, List.nil_append] at hown1
    have hb : Below w.heap.size w w1 := ((Below.refl _ _).alloc (Nat.le_refl _) _).grown hgrow1 (by simp) (fun k hk => by injection hk with hk; subst hk; exact Nat.le_refl _)
    rcases hown1.2 with ⟨rfl, h0⟩ | ⟨g, cap, cur, rfl, _⟩
    · subst h0; exact ⟨none, 0, rfl, hown1, hb⟩
    · exact ⟨_, _, rfl, hown1, hb⟩
end CloneVal
end Go.Proofs.YtfhpniafkkgibaaDoor
