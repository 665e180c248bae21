/- Threads in memory, beside the dice and a state's variable. -/
import Derived.Test.YtnomghcieomjmaaL
import Derived.Test.YtnomghcieomjmaaRow
import Derived.Test.YtnomghcieomjmaaDice
namespace Go.Proofs.Ytnomghcieomjmaa
open Go.RowKit

/-- Threads in memory that do not lie in block d. -/
structure ThA (w : World) (d : Nat) (A : Option Addr) (n : Nat) (l : List Th) : Prop where
  t : Ths w w.heap.size A n l
  a : 0 < n → ∀ ad, A = some ad → ad.block ≠ d
  b : ∀ t ∈ l, 0 < t.n → ∀ ad, t.A = some ad → ad.block ≠ d
theorem ThA.up {w w' : World} {d n : Nat} {A : Option Addr} {l : List Th} (h : ThA w d A n l) (hb : Below w.heap.size w w') : ThA w' d A n l := ⟨h.t.up hb, h.a, h.b⟩
theorem Ths.put {w w' : World} {d n : Nat} {A : Option Addr} {l : List Th} (h : Ths w w.heap.size A n l) (ha : 0 < n → ∀ ad, A = some ad → ad.block ≠ d) (hb : ∀ t ∈ l, 0 < t.n → ∀ ad, t.A = some ad → ad.block ≠ d) (hg : w.grownBy w' (some d)) : Ths w' w'.heap.size A n l :=
  ⟨(h.sl.grown (Nat.le_refl _) hg (fun h0 ad e e2 => by injection e2 with e2; exact ha h0 ad e e2.symm)).mono hg.size, fun t ht => ((h.ths t ht).grown (Nat.le_refl _) hg (fun h0 ad e e2 => by injection e2 with e2; exact hb t ht h0 ad e e2.symm)).mono hg.size⟩
theorem ThA.put {w w' : World} {d n : Nat} {A : Option Addr} {l : List Th} (h : ThA w d A n l) (hg : w.grownBy w' (some d)) : ThA w' d A n l := ⟨h.t.put h.a h.b hg, h.a, h.b⟩
theorem ThA.put2 {w w' : World} {d b n : Nat} {A : Option Addr} {l : List Th} (h : ThA w d A n l) (h2 : ThA w b A n l) (hg : w.grownBy w' (some b)) : ThA w' d A n l := ⟨h.t.put h2.a h2.b hg, h.a, h.b⟩
theorem ThA.new {w : World} {b n : Nat} {A : Option Addr} {l : List Th} (h : Ths w w.heap.size A n l) (hb : w.heap.size ≤ b) : ThA w b A n l := by
  refine ⟨h, fun h0 ad e => ?_, fun t ht h0 ad e => ?_⟩
  · obtain ⟨ab, ao, e2, hlt, _⟩ := h.sl.at_ h0
    rw [e] at e2; injection e2 with e2; subst e2; simp only; omega
  · obtain ⟨ab, ao, e2, hlt, _⟩ := (h.ths t ht).at_ h0
    rw [e] at e2; injection e2 with e2; subst e2; simp only; omega
/-- Threads that are being made. -/
structure Mk (w : World) (base d : Nat) (A : Option Addr) (n c : Nat) (l : List Th) : Prop where
  row : Row w base 1 A n c (l.flatMap Th.cells)
  len : l.length = n
  ths : ∀ t ∈ l, Sl w w.heap.size 5 POp.cells t.A t.n t.s
  off : ∀ t ∈ l, 0 < t.n → ∀ ad, t.A = some ad → ad.block ≠ d ∧ blkOf A ≠ some ad.block
  room : ∀ t ∈ l, t.n ≤ t.c ∧ t.c ≤ 9223372036854775807 ∧ t.n ≤ 1000
theorem Mk.nil (w : World) (base d : Nat) : Mk w base d none 0 0 [] := ⟨Row.nil, rfl, (fun t h => by cases h), (fun t h => by cases h), (fun t h => by cases h)⟩
section
variable {w w' : World} {base d n c : Nat} {A : Option Addr} {l : List Th}
theorem Mk.below (h : Mk w base d A n c l) (hb : Below w.heap.size w w') : Mk w' base d A n c l := ⟨h.row.below hb, h.len, fun t ht => (h.ths t ht).up hb, h.off, h.room⟩
theorem Mk.thrown (h : Mk w base d A n c l) (ht : Thrown w d w') (hd : d < base) : Mk w' base d A n c l :=
  ⟨h.row.kept ht.grown (fun k hk e => by injection e with e; have := (h.row.block hk).1; omega), h.len, fun t hm => (h.ths t hm).thrown ht (fun h0 ad e => (h.off t hm h0 ad e).1), h.off, h.room⟩
theorem Mk.snoc {A' : Option Addr} {c' : Nat} {t : Th} (h : Mk w base d A n c l) (hr : Row w' base 1 A' (n + 1) c' (l.flatMap Th.cells ++ t.cells)) (hg : w.grownBy w' (blkOf A)) (ho : ∀ g, blkOf A' = some g → blkOf A = some g ∨ w.heap.size ≤ g)
    (hs : Sl w w.heap.size 5 POp.cells t.A t.n t.s) (hof : 0 < t.n → ∀ ad, t.A = some ad → ad.block ≠ d ∧ blkOf A ≠ some ad.block) (hrm : t.n ≤ t.c ∧ t.c ≤ 9223372036854775807 ∧ t.n ≤ 1000) : Mk w' base d A' (n + 1) c' (l ++ [t]) := by
  have key : ∀ x ∈ l ++ [t], Sl w w.heap.size 5 POp.cells x.A x.n x.s ∧ (0 < x.n → ∀ ad, x.A = some ad → ad.block ≠ d ∧ blkOf A ≠ some ad.block) ∧ x.n ≤ x.c ∧ x.c ≤ 9223372036854775807 ∧ x.n ≤ 1000 := fun x hx => by
    rcases List.mem_append.1 hx with hx | hx
    · exact ⟨h.ths x hx, h.off x hx, h.room x hx⟩
    · simp at hx; subst hx; exact ⟨hs, hof, hrm⟩
  refine ⟨by simpa using hr, by rw [List.length_append, h.len]; rfl, fun x hx => ?_, fun x hx h0 ad e => ?_, fun x hx => (key x hx).2.2⟩
  · obtain ⟨k1, k2, _⟩ := key x hx
    exact (k1.grown (Nat.le_refl _) hg (fun h0 ad e => (k2 h0 ad e).2)).mono hg.size
  · obtain ⟨k1, k2, _⟩ := key x hx
    refine ⟨(k2 h0 ad e).1, fun e2 => ?_⟩
    obtain ⟨ab, ao, e3, hlt, _⟩ := k1.at_ h0
    rw [e] at e3; injection e3 with e3; subst e3
    rcases ho _ e2 with h1 | h1
    · exact (k2 h0 _ e).2 h1
    · simp only at h1; omega
theorem Mk.out (h : Mk w base d A n c l) (hd : d < base) : ThA w d A n l :=
  ⟨⟨h.row.sl Th.size h.len, h.ths⟩, fun _ ad e => by have := (h.row.block (k := ad.block) (by rw [e]; rfl)).1; omega, fun t ht h0 ad e => (h.off t ht h0 ad e).1⟩
theorem Mk.rooms (h : Mk w base d A n c l) : Rooms l := fun t ht => ⟨(h.room t ht).1, (h.room t ht).2.1⟩
theorem Mk.small (h : Mk w base d A n c l) : ∀ t ∈ l, t.n ≤ 9000000000000 := fun t ht => by have := (h.room t ht).2.2; omega
end
theorem infoOps : (Try.prog.info? 49).map (fun i => (i.zero, i.size, i.bytes)) = some (some (.slice none 0 0), 1, 24) := by kernel_rfl
end Go.Proofs.Ytnomghcieomjmaa
