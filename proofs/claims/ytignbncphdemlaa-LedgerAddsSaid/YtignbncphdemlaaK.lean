/- Totals: the plain sums. -/
import Derived.Test.YtignbncphdemlaaJ
namespace Go.Proofs.Ytignbncphdemlaa
open Go.RowKit

def totF (l : List Acc) : Acc := fun j => (l.map (· j)).foldl (· + ·) 0
theorem totF_snoc {l : List Acc} {k : Nat} {a : Acc} (h : l[k]? = some a) (j : Nat) : totF (l.take (k + 1)) j = totF (l.take k) j + a j := by
  rw [List.take_add_one, h, totF, List.map_append, List.foldl_append]
  rfl
theorem totF_bnd {T : Int} {l : List Acc} (hl : Ok T l) (hT : 0 ≤ T) (j : Nat) (hj : j < 8) : ∀ k : Nat, 0 ≤ totF (l.take k) j ∧ totF (l.take k) j ≤ T * (k : Int)
  | 0 => by simp [totF]
  | k + 1 => by
    have ih := totF_bnd hl hT j hj k
    have e : T * ((k + 1 : Nat) : Int) = T * (k : Int) + T := by rw [Int.natCast_add, Int.mul_add]; simp
    cases h : l[k]? with
    | none =>
      have e2 : l.take (k + 1) = l.take k := by rw [List.take_add_one, h]; simp
      rw [e2, e]; omega
    | some x => rw [totF_snoc h, e]; have := hl.at_ h j hj; omega
/-- The sums while account k is added: fields 0, 7 and 1 to i are done. -/
def Part (l : List Acc) (k i : Nat) (S : Acc) : Prop := (∀ j, j = 0 ∨ j = 7 ∨ (1 ≤ j ∧ j ≤ i) → S j = totF (l.take (k + 1)) j) ∧ (∀ j, i < j → j < 7 → 0 < j → S j = totF (l.take k) j)
theorem Part.next {l : List Acc} {k i : Nat} {S : Acc} {a : Acc} (h : Part l k i S) (hi : i < 6) (ha : l[k]? = some a) : Part l k (i + 1) (put S (i + 1) (S (i + 1) + a (i + 1))) := by
  refine ⟨fun j hj => ?_, fun j h1 h2 h3 => ?_⟩
  · by_cases hji : j = i + 1
    · subst hji
      rw [put_same, h.2 _ (by omega) (by omega) (by omega), totF_snoc ha]
    · rw [put_other _ _ _ _ hji]; exact h.1 j (by omega)
  · rw [put_other _ _ _ _ (by omega)]; exact h.2 j (by omega) h2 h3
theorem Part.first {l : List Acc} {k : Nat} {S : Acc} {a : Acc} (h : ∀ j, j < 8 → S j = totF (l.take k) j) (ha : l[k]? = some a) : Part l k 0 (put (put S 0 (S 0 + a 0)) 7 (S 7 + a 7)) := by
  refine ⟨fun j hj => ?_, fun j h1 h2 h3 => ?_⟩
  · rcases hj with rfl | rfl | hj
    · rw [put_other _ _ _ _ (by decide), put_same, h 0 (by omega), totF_snoc ha]
    · rw [put_same, h 7 (by omega), totF_snoc ha]
    · omega
  · rw [put_other _ _ _ _ (by omega), put_other _ _ _ _ (by omega)]; exact h j (by omega)
theorem Part.all {l : List Acc} {k : Nat} {S : Acc} (h : Part l k 6 S) : ∀ j, j < 8 → S j = totF (l.take (k + 1)) j := fun j hj => h.1 j (by omega)
/-- The cells of an account in memory. -/
def At (w : World) (b : Nat) (S : Acc) : Prop := ∀ j, j < 8 → w.cell? ⟨b, j, none⟩ = some (.int .i64 (S j))
theorem At.set {w : World} {b : Nat} {S : Acc} (h : At w b S) {f : Nat} (hf : f < 8) (v : Int) : At (w.setCell ⟨b, f, none⟩ (.int .i64 v)) b (put S f v) := by
  intro j hj
  by_cases hjf : j = f
  · subst hjf; rw [put_same]; exact World.cell?_setCell_same _ _ _ (h j hj)
  · rw [put_other _ _ _ _ hjf, set_other _ _ _ _ (by intro e; injection e with e1 e2; omega)]; exact h j hj
theorem At.below {w w' : World} {B b : Nat} {S : Acc} (h : At w b S) (hb : Below B w w') (hlt : b < B) : At w' b S := fun j hj => (belc hb hlt).trans (h j hj)
theorem At.mk' {w : World} {b : Nat} {S : Acc} (h : ∀ (j : Nat) (u : Value), S.cells[j]? = some u → w.cell? ⟨b, j, none⟩ = some u) : At w b S := fun j hj => h j _ (Acc.at_ S j hj)
/-- The value of an account. -/
def Acc.value (a : Acc) : Value := .agg #[.int .i64 (a 0), .int .i64 (a 1), .int .i64 (a 2), .int .i64 (a 3), .int .i64 (a 4), .int .i64 (a 5), .int .i64 (a 6), .int .i64 (a 7)]
theorem value_congr {a b : Acc} (h : ∀ j, j < 8 → a j = b j) : a.value = b.value := by
  unfold Acc.value
  rw [h 0 (by omega), h 1 (by omega), h 2 (by omega), h 3 (by omega), h 4 (by omega), h 5 (by omega), h 6 (by omega), h 7 (by omega)]
end Go.Proofs.Ytignbncphdemlaa
