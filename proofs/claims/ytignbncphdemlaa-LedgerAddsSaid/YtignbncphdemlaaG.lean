/- The small functions of move: which share is a stranger's, and where a step goes. -/
import Derived.Test.YtignbncphdemlaaF
import Derived.Test.YtignbncphdemlaaIdx3
namespace Go.Proofs.Ytignbncphdemlaa
open Go.RowKit
theorem stranger_any (x : Shr) (p : Nat) (A : Option Addr) (n c : Nat) (w : World) (hn : n ≤ 1000000) (hp : p < w.heap.size) (hc : w.cell? ⟨p, 0, none⟩ = some (.slice A n c)) :
    Calls Try.prog 44 #[.agg #[.int .i64 x.worker, .int .i64 x.steps], .pointer (some ⟨p, 0, none⟩)] w fun e w' => e = .returned (.bool (!inB n x.worker)) ∧ Below w.heap.size w w' := by
  have c1 : ∀ o, (w.alloc o).cell? ⟨p, 0, none⟩ = some (.slice A n c) := fun o => (cell_old w o p 0 hp).trans hc
  go_enter Try.func44, Try.ntmps44
  go_wp2_with fail
  refine (within_any A n c x.worker _ hn).mono ?_
  rintro e w1 ⟨rfl, hb1⟩
  have hz := hb1.size
  simp only [World.size_alloc] at hz
  go_wp2
  go_ret
  exact ⟨rfl, ((Below.refl _ _).alloc (Nat.le_refl _) _).trans (hb1.mono (by simp))⟩
theorem strange_any (A : Option Addr) (n c : Nat) (s : List Shr) (p : Nat) (A1 : Option Addr) (n1 c1 : Nat) (w : World) (hs : Sl w w.heap.size 2 Shr.cells A n s) (hn : n ≤ 1000000) (hn1 : n1 ≤ 1000000) (hp : p < w.heap.size) (hc : w.cell? ⟨p, 0, none⟩ = some (.slice A1 n1 c1)) :
    Calls Try.prog 45 #[.slice A n c, .func (.func 44) #[] #[.pointer (some ⟨p, 0, none⟩)]] w fun e w' => e = .returned (.bool (strange n1 s)) ∧ Below w.heap.size w w' := by
  have HP := Lib.hid hc
  have hv : decide (0 ≤ IdxStr.idx (fun x => !inB n1 x.worker) s) = strange n1 s := by
    rcases IdxStr.idx_cases (fun x => !inB n1 x.worker) s with ⟨h, hno⟩ | ⟨k, x, h, hk, hx, hq, _⟩
    · rw [h]
      have : strange n1 s = false := by
        rw [strange, List.any_eq_false]
        intro x hx
        obtain ⟨i, hi⟩ := List.getElem?_of_mem hx
        have := hno i x hi
        simp at this
        simp [this]
      rw [this]; decide
    · rw [h]
      have : strange n1 s = true := by
        rw [strange, List.any_eq_true]
        exact ⟨x, List.mem_of_getElem? hx, hq⟩
      rw [this]; simp
  have HV := Lib.hid hv
  clear hv hc
  go_enter Try.func45, Try.ntmps45
  go_wp2_with fail
  refine (IdxStr.any A n c s (fun x => !inB n1 x.worker) p w hs (by omega) (fun x _ w' hb' => stranger_any x p A1 n1 c1 w' hn1 (by have := hb'.size; omega) ((belc hb' hp).trans HP.out))).mono ?_
  rintro e w1 ⟨rfl, hb1⟩
  go_wp2
  go_ret
  exact ⟨by rw [← HV.out]; rfl, hb1⟩
theorem keep1_any (p o : Nat) (w : World) : Calls Try.prog 39 #[.pointer (some ⟨p, o, none⟩)] w fun e w' => e = .returned (.pointer (some ⟨p, o + 0, none⟩)) ∧ ∃ k, w' = w.drewN k := by
  go_enter Try.func39, Try.ntmps39
  go_wp2
  go_ret
  exact ⟨rfl, 0, rfl⟩
theorem lose1_any (p o q : Nat) (k : Nat) (w : World) (hk : k < 6) (hc : w.cell? ⟨q, 0, none⟩ = some (.int .i64 k)) : Calls Try.prog 40 #[.pointer (some ⟨p, o, none⟩), .pointer (some ⟨q, 0, none⟩)] w fun e w' => e = .returned (.pointer (some ⟨p, o + (1 + k), none⟩)) ∧ ∃ k, w' = w.drewN k := by
  go_enter Try.func40, Try.ntmps40
  go_wp2
  go_quiet (fail)
  go_wp2
  go_ret
  refine ⟨?_, _, rfl⟩
  rw [← Nat.add_assoc]; rfl
end Go.Proofs.Ytignbncphdemlaa
