/- Whether a move is in a list. -/
import Derived.Test.YtnomghcieomjmaaM
import Derived.BigQuiet
import Derived.Shelf.SlicesE.Kit
import Derived.Laws.StructEq
namespace Go.Proofs.Ytnomghcieomjmaa
open Go.RowKit

theorem eqMv : EqlAt Try.prog 41 (fun x : Mv => .agg #[.int .i64 x.thread, .int .i64 x.op, .int .i64 x.store]) (fun x y => decide (x = y)) := by
  refine ⟨fun x y w => ?_, GuardAt.agg _ (by kernel_rfl)⟩
  have u3 := Try.underlying3
  have a3 := Try.isAgg3
  have z3 := Try.sizeOf3
  have hS : Try.prog.underlying 41 = some (.struct (Try.prog.fieldsOf 41)) := by kernel_rfl
  have hp : Try.prog.stoodInHeld 41 = false := by kernel_rfl
  rw [run_eql_struct, show (10000 : Nat) = 9999 + 1 from rfl, run_equalIn_agg w 9999 41 _ _ hS hp]
  simp only [Program.fieldsOf, Try.underlying41]
  go_simp
  obtain ⟨x1, x2, x3⟩ := x
  obtain ⟨y1, y2, y3⟩ := y
  by_cases h1 : x1 = y1 <;> by_cases h2 : x2 = y2 <;> by_cases h3 : x3 = y3 <;> simp [h1, h2, h3]

set_option maxHeartbeats 2000000 in
theorem index_any (A : Option Addr) (n c : Nat) (l : List Mv) (v : Mv) (w : World) (hs : Sl w w.heap.size 3 Mv.cells A n l) (hn : n ≤ 9000000000000) :
    Calls Try.prog 53 #[.slice A n c, .agg #[.int .i64 v.thread, .int .i64 v.op, .int .i64 v.store]] w fun e w' => (∃ k : Nat, e = .returned (.int .i64 k) ∧ v ∈ l) ∧ Below w.heap.size w w' ∨ (e = .returned (.int .i64 (-1)) ∧ ¬ v ∈ l) ∧ Below w.heap.size w w' := by
  have HS := Lib.hid hs
  have HL := Lib.hid hs.len
  clear hs
  obtain ⟨W0, hW0⟩ : ∃ W0, W0 = w.alloc (.cells #[.int .i64 v.thread, .int .i64 v.op, .int .i64 v.store] 41) := ⟨_, rfl⟩
  have hb0 : Below w.heap.size w W0 := by rw [hW0]; exact (by repeat (first | (with_reducible exact (Below.refl _ _)) | (with_reducible refine Below.drew ?_) | (with_reducible refine below_drewN ?_ _) | (with_reducible refine Below.setCell ?_ ?_ _; rotate_left; (first | omega | (simp <;> omega))) | (with_reducible refine Below.alloc ?_ ?_ _; rotate_left; (first | omega | (simp <;> omega)))))
  have hz0 : w.heap.size + 1 ≤ W0.heap.size := by rw [hW0]; simp
  have KV := Lib.hid (show ∀ w', Below W0.heap.size W0 w' → w'.cell? ⟨w.heap.size, 0, none⟩ = some (.int .i64 v.thread) ∧ w'.cell? ⟨w.heap.size, 1, none⟩ = some (.int .i64 v.op) ∧ w'.cell? ⟨w.heap.size, 2, none⟩ = some (.int .i64 v.store) from fun w' hb => ⟨(belc hb (by omega)).trans (by rw [hW0, cell_new _ _ _ _ _ (by simp <;> omega)]; rfl), (belc hb (by omega)).trans (by rw [hW0, cell_new _ _ _ _ _ (by simp <;> omega)]; rfl), (belc hb (by omega)).trans (by rw [hW0, cell_new _ _ _ _ _ (by simp <;> omega)]; rfl)⟩)
  go_enter Try.func53, Try.ntmps53
  go_upto_region 1 with fail
  rw [← hW0]
  have HW0 := Lib.hid hW0
  clear hW0
  go_wp2_with fail
  go_loopw [8] (fun i wr => ∃ k : Nat, k ≤ n ∧ i = .int .i64 k ∧ Hid (∀ (i : Nat) (x : Mv), i < k → l[i]? = some x → x ≠ v) ∧ Below W0.heap.size W0 wr) (fun i _ => n - (intOf i).toNat)
  case atStart => exact ⟨0, Nat.zero_le _, rfl, Lib.hid (fun i x h => absurd h (by omega)), Below.refl _ _⟩
  case round =>
    obtain ⟨k, hk, rfl, hno, hb⟩ := hrel
    have hbw : Below w.heap.size w wr := hb0.trans (hb.mono hb0.size)
    by_cases hlt : k < n
    · obtain ⟨ab, ao, rfl, hlo, hat⟩ := HS.out.at_ (by omega)
      obtain ⟨x, hx⟩ : ∃ x, l[k]? = some x := ⟨_, List.getElem?_eq_getElem (by rw [HL.out]; exact hlt)⟩
      have c0 : wr.cell? ⟨ab, ao + k * 3, none⟩ = some (.int .i64 x.thread) := (belc hbw hlo).trans (hat k x hx 0 _ rfl)
      have c1 : wr.cell? ⟨ab, ao + k * 3 + 1, none⟩ = some (.int .i64 x.op) := (belc hbw hlo).trans (hat k x hx 1 _ rfl)
      have c2 : wr.cell? ⟨ab, ao + k * 3 + 2, none⟩ = some (.int .i64 x.store) := (belc hbw hlo).trans (hat k x hx 2 _ rfl)
      obtain ⟨v0, v1, v2⟩ := KV.out wr hb
      have hltI : (k : Int) < (n : Int) := by omega
      have HX := Lib.hid hx
      clear hat hx
      by_cases hxv : x = v
      · subst hxv
        go_upto_region 4 with fail
        go_quiet (fail)
        go_wp2
        go_ret
        exact .inl ⟨⟨k, rfl, List.mem_of_getElem? HX.out⟩, below_drewN hbw _⟩
      · have heq := fun w => eqMv.1 v x w
        have hgd := fun op a b w => eqMv.2 op a b v x w
        have hvx : ¬ v = x := fun e => hxv e.symm
        simp only [decide_eq_false hvx] at heq hgd
        go_upto_region 4 with fail
        go_quiet (fail)
        go_wp2
        go_roundw
        case rel => exact ⟨k + 1, by omega, by go_num, Lib.hid (fun i y hi hy => by
          by_cases hik : i = k
          · subst hik; rw [HX.out] at hy; injection hy with hy; subst hy; exact hxv
          · exact hno.out i y (by omega) hy), below_drewN hb _⟩
        case measure => simp [intOf]; omega
    · obtain rfl : k = n := by omega
      go_wp2
      go_ret
      refine .inr ⟨⟨rfl, fun hv => ?_⟩, hbw⟩
      obtain ⟨i, hi⟩ := List.getElem?_of_mem hv
      exact hno.out i v (by have := (List.getElem?_eq_some_iff.1 hi).1; have := HL.out; omega) hi rfl

theorem containsMv_any (A : Option Addr) (n c : Nat) (l : List Mv) (v : Mv) (w : World) (hs : Sl w w.heap.size 3 Mv.cells A n l) (hn : n ≤ 9000000000000) :
    Calls Try.prog 34 #[.slice A n c, .agg #[.int .i64 v.thread, .int .i64 v.op, .int .i64 v.store]] w fun e w' => e = .returned (.bool (decide (v ∈ l))) ∧ Below w.heap.size w w' := by
  have HS := Lib.hid hs
  clear hs
  obtain ⟨W0, hW0⟩ : ∃ W0, W0 = w.alloc (.cells #[.int .i64 v.thread, .int .i64 v.op, .int .i64 v.store] 41) := ⟨_, rfl⟩
  have hb0 : Below w.heap.size w W0 := by rw [hW0]; exact (by repeat (first | (with_reducible exact (Below.refl _ _)) | (with_reducible refine Below.drew ?_) | (with_reducible refine below_drewN ?_ _) | (with_reducible refine Below.setCell ?_ ?_ _; rotate_left; (first | omega | (simp <;> omega))) | (with_reducible refine Below.alloc ?_ ?_ _; rotate_left; (first | omega | (simp <;> omega)))))
  have v0 : W0.cell? ⟨w.heap.size, 0, none⟩ = some (.int .i64 v.thread) := (by rw [hW0, cell_new _ _ _ _ _ (by simp <;> omega)]; rfl)
  have v1 : W0.cell? ⟨w.heap.size, 1, none⟩ = some (.int .i64 v.op) := (by rw [hW0, cell_new _ _ _ _ _ (by simp <;> omega)]; rfl)
  have v2 : W0.cell? ⟨w.heap.size, 2, none⟩ = some (.int .i64 v.store) := (by rw [hW0, cell_new _ _ _ _ _ (by simp <;> omega)]; rfl)
  go_enter Try.func34, Try.ntmps34
  go_upto_region 1 with fail
  rw [← hW0]
  have HW0 := Lib.hid hW0
  clear hW0
  go_wp2_with (go_at_call 53; refine (index_any A n c l v W0 (HS.out.up hb0) hn).mono ?_; rintro e Y (⟨⟨k, rfl, hv⟩, hY⟩ | ⟨⟨rfl, hv⟩, hY⟩))
  · go_wp2
    go_ret
    exact ⟨by rw [decide_eq_true hv]; rfl, hb0.trans (hY.mono hb0.size)⟩
  · go_wp2
    go_ret
    exact ⟨by rw [decide_eq_false hv]; rfl, hb0.trans (hY.mono hb0.size)⟩
end Go.Proofs.Ytnomghcieomjmaa
