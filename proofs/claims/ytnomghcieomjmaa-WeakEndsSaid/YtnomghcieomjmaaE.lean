/- Which operations pass which. -/
import Derived.Test.YtnomghcieomjmaaC
import Derived.BigQuiet
import Derived.Deep.LoopGhost
namespace Go.Proofs.Ytnomghcieomjmaa
open Go.RowKit

/-- Operations that may pass others: loads and stores. -/
def simpleB (k : Int) : Bool := decide (k = 2) || decide (k = 1)
def passB (o e : POp) : Bool := simpleB o.kind && simpleB e.kind && !decide (o.word = e.word)
def queuesB (m : Int) : Bool := decide (m = 1) || decide (m = 2)

theorem queues_any (m : Int) (w : World) : Calls Try.prog 37 #[.int .i64 m] w fun e w' => e = .returned (.bool (queuesB m)) ∧ Below w.heap.size w w' := by
  by_cases h1 : m = 1
  · subst h1
    go_enter Try.func37, Try.ntmps37
    go_wp2
    go_ret
    exact ⟨rfl, Below.refl _ _⟩
  · have hv : queuesB m = decide (m = 2) := by simp [queuesB, h1]
    rw [hv]
    have h1' : (m == 1) = false := by simpa using h1
    go_enter Try.func37, Try.ntmps37
    go_wp2
    go_ret
    exact ⟨by simp <;> rfl, Below.refl _ _⟩

theorem simple_any (o : POp) (w : World) : Calls Try.prog 61 #[.agg #[.int .i64 o.kind, .int .i64 o.word, .int .i64 o.n, .int .i64 o.m, .int .i64 o.reg]] w fun e w' => e = .returned (.bool (simpleB o.kind)) ∧ Below w.heap.size w w' := by
  obtain ⟨kd, wd, nn, mm, rg⟩ := o
  by_cases h1 : kd = 2
  · subst h1
    go_enter Try.func61, Try.ntmps61
    go_wp2
    go_ret
    exact ⟨rfl, (by repeat (first | (with_reducible exact (Below.refl _ _)) | (with_reducible refine Below.drew ?_) | (with_reducible refine below_drewN ?_ _) | (with_reducible refine Below.setCell ?_ ?_ _; rotate_left; (first | omega | (simp <;> omega))) | (with_reducible refine Below.alloc ?_ ?_ _; rotate_left; (first | omega | (simp <;> omega)))))⟩
  · have hv : simpleB kd = decide (kd = 1) := by simp [simpleB, h1]
    have h1' : (kd == 2) = false := by simpa using h1
    go_enter Try.func61, Try.ntmps61
    go_wp2
    go_ret
    exact ⟨by simp [hv] <;> rfl, (by repeat (first | (with_reducible exact (Below.refl _ _)) | (with_reducible refine Below.drew ?_) | (with_reducible refine below_drewN ?_ _) | (with_reducible refine Below.setCell ?_ ?_ _; rotate_left; (first | omega | (simp <;> omega))) | (with_reducible refine Below.alloc ?_ ?_ _; rotate_left; (first | omega | (simp <;> omega)))))⟩

set_option maxHeartbeats 1000000 in
theorem passes_any (o e : POp) (w : World) : Calls Try.prog 50 #[.agg #[.int .i64 o.kind, .int .i64 o.word, .int .i64 o.n, .int .i64 o.m, .int .i64 o.reg], .agg #[.int .i64 e.kind, .int .i64 e.word, .int .i64 e.n, .int .i64 e.m, .int .i64 e.reg]] w fun r w' => r = .returned (.bool (passB o e)) ∧ Below w.heap.size w w' := by
  obtain ⟨W1, hW1⟩ : ∃ W1, W1 = (w.alloc (.cells #[.int .i64 o.kind, .int .i64 o.word, .int .i64 o.n, .int .i64 o.m, .int .i64 o.reg] 51)).alloc (.cells #[.int .i64 e.kind, .int .i64 e.word, .int .i64 e.n, .int .i64 e.m, .int .i64 e.reg] 51) := ⟨_, rfl⟩
  have hb1 : Below w.heap.size w W1 := by rw [hW1]; exact (by repeat (first | (with_reducible exact (Below.refl _ _)) | (with_reducible refine Below.drew ?_) | (with_reducible refine below_drewN ?_ _) | (with_reducible refine Below.setCell ?_ ?_ _; rotate_left; (first | omega | (simp <;> omega))) | (with_reducible refine Below.alloc ?_ ?_ _; rotate_left; (first | omega | (simp <;> omega)))))
  have hz1 : w.heap.size + 2 ≤ W1.heap.size := by rw [hW1]; simp
  have KS := Lib.hid (show ∀ w', Below W1.heap.size W1 w' → (w'.cell? ⟨w.heap.size, 0, none⟩ = some (.int .i64 o.kind) ∧ w'.cell? ⟨w.heap.size, 1, none⟩ = some (.int .i64 o.word) ∧ w'.cell? ⟨w.heap.size, 2, none⟩ = some (.int .i64 o.n) ∧ w'.cell? ⟨w.heap.size, 3, none⟩ = some (.int .i64 o.m) ∧ w'.cell? ⟨w.heap.size, 4, none⟩ = some (.int .i64 o.reg)) ∧ (w'.cell? ⟨w.heap.size + 1, 0, none⟩ = some (.int .i64 e.kind) ∧ w'.cell? ⟨w.heap.size + 1, 1, none⟩ = some (.int .i64 e.word) ∧ w'.cell? ⟨w.heap.size + 1, 2, none⟩ = some (.int .i64 e.n) ∧ w'.cell? ⟨w.heap.size + 1, 3, none⟩ = some (.int .i64 e.m) ∧ w'.cell? ⟨w.heap.size + 1, 4, none⟩ = some (.int .i64 e.reg)) from fun w' hb => by
    refine ⟨⟨?_, ?_, ?_, ?_, ?_⟩, ?_, ?_, ?_, ?_, ?_⟩
    all_goals (refine (belc hb (by omega)).trans ?_; first | exact (by rw [hW1, cell_old _ _ _ _ (by simp <;> omega), cell_new _ _ _ _ _ (by simp <;> omega)]; rfl) | exact (by rw [hW1, cell_new _ _ _ _ _ (by simp <;> omega)]; rfl)))
  obtain ⟨⟨a0, a1, a2, a3, a4⟩, b0, b1, b2, b3, b4⟩ := KS.out W1 (Below.refl _ _)
  obtain ⟨so, hso⟩ : ∃ so, so = simpleB o.kind := ⟨_, rfl⟩
  obtain ⟨se, hse⟩ : ∃ se, se = simpleB e.kind := ⟨_, rfl⟩
  have HO := Lib.hid hso
  have HE := Lib.hid hse
  have hv := Lib.hid (show passB o e = (so && se && !decide (o.word = e.word)) from by rw [hso, hse]; rfl)
  clear hso hse
  go_enter Try.func50, Try.ntmps50
  go_wp2_with fail
  rw [← hW1]
  have HW := Lib.hid hW1
  clear hW1
  cases so with
  | false =>
    go_wp2_with (first | (go_at_call 61; refine (simple_any o _).mono ?_; rintro r Y ⟨rfl, hY⟩; rw [← HO.out]; obtain ⟨⟨a0, a1, a2, a3, a4⟩, b0, b1, b2, b3, b4⟩ := KS.out Y hY))
    go_ret
    exact ⟨by rw [hv.out]; rfl, hb1.trans (hY.mono hb1.size)⟩
  | true =>
    cases se with
    | false =>
      go_wp2_with (first | (go_at_call_of 61 (o.kind); refine (simple_any o _).mono ?_; rintro r Y ⟨rfl, hY⟩; rw [← HO.out]; obtain ⟨⟨a0, a1, a2, a3, a4⟩, b0, b1, b2, b3, b4⟩ := KS.out Y hY) | (go_at_call_of 61 (e.kind); refine (simple_any e _).mono ?_; rintro r Z ⟨rfl, hZ⟩; rw [← HE.out]; have hZ := hY.trans (hZ.mono hY.size); obtain ⟨⟨a0, a1, a2, a3, a4⟩, b0, b1, b2, b3, b4⟩ := KS.out Z hZ))
      go_ret
      exact ⟨by rw [hv.out]; rfl, hb1.trans (hZ.mono hb1.size)⟩
    | true =>
      go_wp2_with (first | (go_at_call_of 61 (o.kind); refine (simple_any o _).mono ?_; rintro r Y ⟨rfl, hY⟩; rw [← HO.out]; obtain ⟨⟨a0, a1, a2, a3, a4⟩, b0, b1, b2, b3, b4⟩ := KS.out Y hY) | (go_at_call_of 61 (e.kind); refine (simple_any e _).mono ?_; rintro r Z ⟨rfl, hZ⟩; rw [← HE.out]; have hZ := hY.trans (hZ.mono hY.size); obtain ⟨⟨a0, a1, a2, a3, a4⟩, b0, b1, b2, b3, b4⟩ := KS.out Z hZ))
      go_ret
      exact ⟨by rw [hv.out]; simp <;> rfl, hb1.trans (hZ.mono hb1.size)⟩
end Go.Proofs.Ytnomghcieomjmaa
