/- Slices cut by the code: what 'x[:k]' and 'x[k:]' yield, and how the rest reads. -/
import Derived.Test.YteeglmlmconbmaaKit2
namespace Go.Proofs.Yteeglmlmconbmaa
open Go.RowKit

/-- The address behind 'x[k:]'. -/
def cutA (A : Option Addr) (c k sz : Nat) : Option Addr := if c = k then A else A.map (·.add (k * sz))
theorem slice_high {P : Program} {t e : TypeId} {i : TypeInfo} (hu : P.underlying t = some (.slice e)) (hi : P.info? e = some i) {A : Option Addr} {n c k : Nat} (hk : k ≤ c) (w : World) :
    (Instr.slice t (.slice A n c) none (some (.int .i64 k)) none).run P w = .ok (.slice A k c) w := by
  have hm : A.map (·.add 0) = A := by cases A <;> simp [Addr.add]
  simp [Instr.slice, run_underlying hu, Instr.sliceBounds, Instr.sliceBound, asIntOf, hk, sizeOf, typeInfo, hi, hm]
theorem slice_low {P : Program} {t e : TypeId} {i : TypeInfo} (hu : P.underlying t = some (.slice e)) (hi : P.info? e = some i) {A : Option Addr} {n c k : Nat} (hk : k ≤ n) (w : World) :
    (Instr.slice t (.slice A n c) (some (.int .i64 k)) none none).run P w = .ok (.slice (cutA A c k i.size) (n - k) (c - k)) w := by
  simp [Instr.slice, run_underlying hu, Instr.sliceBounds, Instr.sliceBound, asIntOf, hk, sizeOf, typeInfo, hi, cutA]
theorem Sl.src_low {α : Type} {w : World} {B sz : Nat} {cells : α → List Value} {A : Option Addr} {n c k : Nat} {l : List α} (h : Sl w B sz cells A n l) (hsz : ∀ x, (cells x).length = sz) (hnc : n ≤ c) :
    (cutA A c k sz = none → n - k = 0) ∧ ∀ ad, cutA A c k sz = some ad → ∀ (j : Nat) (u : Value), ((l.drop k).flatMap cells)[j]? = some u → w.cell? (ad.add j) = some u := by
  by_cases hk : k < n
  · obtain ⟨ab, ao, rfl, _, _⟩ := h.at_ (by omega)
    have hne : ¬ c = k := by omega
    unfold cutA
    rw [if_neg hne]
    refine ⟨fun h => absurd h (by simp), fun ad had j u hu => ?_⟩
    injection had with had
    subst had
    rw [← flat_drop hsz, List.getElem?_drop] at hu
    have := (h.src hsz).2 _ rfl (k * sz + j) u hu
    show w.cell? (Addr.add (Addr.add ⟨ab, ao, none⟩ (k * sz)) j) = some u
    rw [Addr.add_lit] at this
    rwa [Addr.add_lit, Addr.add_lit, Nat.add_assoc]
  · refine ⟨fun _ => by omega, fun ad _ j u hu => ?_⟩
    rw [List.drop_eq_nil_of_le (by rw [h.len]; omega)] at hu
    simp at hu
end Go.Proofs.Yteeglmlmconbmaa
