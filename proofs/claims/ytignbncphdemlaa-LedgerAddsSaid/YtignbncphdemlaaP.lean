/- The sanity check of the ledger's laws. -/
import Derived.Test.YtignbncphdemlaaH
import Derived.Test.YtignbncphdemlaaT
import Derived.Test.YtignbncphdemlaaC
namespace Go.Proofs.Ytignbncphdemlaa
open Go.RowKit

def stk : Nat → List Acc
  | 0 => List.replicate 2 zero
  | k + 1 => stepA (stk k) 1
theorem stk_len : ∀ k, (stk k).length = 2
  | 0 => rfl
  | k + 1 => by rw [stk, step_len, stk_len k]
theorem zero_ok (n : Nat) : Ok 0 (List.replicate n zero) := by
  intro i a ha
  rw [List.getElem?_replicate] at ha
  split at ha
  · injection ha with ha
    subst ha
    exact ⟨fun j _ => Int.le_refl _, Int.le_refl _⟩
  · cases ha
theorem stk_ok : ∀ k : Nat, Ok (k : Int) (stk k)
  | 0 => zero_ok 2
  | k + 1 => by have := step_ok (stk_ok k) 1; rwa [Int.natCast_succ]
theorem Ok.le {T T' : Int} {l : List Acc} (h : Ok T l) (hT : T ≤ T') : Ok T' l := fun i a ha => ⟨(h i a ha).1, by have := (h i a ha).2; omega⟩
def exS : List Shr := [⟨1, 2⟩]
def exA : List Acc := (stk 3).modify 1 (mv1 0 2)
theorem ex_move : moveE 0 (stk 3) exS = (exA, 0) := by
  have h : stk 3 = [zero, put (put (put zero 7 1) 7 2) 7 3] := rfl
  rw [moveE, h]
  rfl

theorem ex_add : addS [] 3 = [⟨3, 1⟩] := by simp [addS, IdxEq.idx, IdxGt.idx]
theorem ex_bnd : ∀ (i : Nat) (x : Shr), ([⟨3, 1⟩] : List Shr)[i]? = some x → -1125899906842624 ≤ x.steps ∧ x.steps ≤ 1125899906842624 := by
  intro i x h
  match i, h with
  | 0, h => simp at h; subst h; simp
set_option maxHeartbeats 1000000 in
theorem sane_any (w : World) : Calls Try.prog 6 #[] w fun e w' => e = .returned (.bool true) ∧ Below w.heap.size w w' := by
  go_enter Try.func6, Try.ntmps6
  go_wp2_with fail
  refine (new_any 2 w (by omega) (by omega)).mono ?_
  rintro e w1 ⟨A1, c1, rfl, hs1, hb1, _⟩
  have hz1 := hb1.size
  rw [List.length_replicate] at hs1 ⊢
  have HS1 := Lib.hid hs1
  clear hs1
  go_wp2_with fail
  go_loopw [1, 3] (fun l i wr => ∃ (k : Nat) (A : Option Addr) (c : Nat), k ≤ 3 ∧ i = .int .i64 k ∧ l = .slice A 2 c ∧ Hid (Sl wr wr.heap.size 8 Acc.cells A 2 (stk k)) ∧ Below w.heap.size w wr) (fun _ i _ => 3 - (intOf i).toNat)
  case atStart => exact ⟨0, A1, c1, by omega, rfl, rfl, HS1, hb1⟩
  case round =>
    obtain ⟨k, A, c, hk, rfl, rfl, hs, hb⟩ := hrel
    by_cases hlt : k < 3
    · go_wp2_with fail
      refine (step_any A 2 c (stk k) 1 _ hs.out (by omega) ((stk_ok k).le (by omega))).mono ?_
      rintro e w2 ⟨A2, c2, rfl, hs2, hb2, _⟩
      have he : stepE (stk k) 1 = (stk (k + 1), 0) := by rw [stepE, inB_true (by omega) (by rw [stk_len]; omega)]; rfl
      have HS2 := Lib.hid hs2
      clear hs2
      rw [he] at HS2 ⊢
      simp only [stk_len] at HS2 ⊢
      have hbw : Below w.heap.size w w2 := hb.trans (hb2.mono hb.size)
      go_wp2
      go_roundw
      case rel => exact ⟨k + 1, A2, c2, by omega, by go_num, rfl, HS2, hbw⟩
      case measure => simp [intOf]; omega
    · obtain rfl : k = 3 := by omega
      have hzz := hb.size
      go_wp2_with fail
      have hab : Below wr.heap.size wr (wr.alloc (.cells #[.int .i64 1, .int .i64 2] 46)) := (by repeat (first | (with_reducible exact (Below.refl _ _)) | (with_reducible refine Below.drew ?_) | (with_reducible refine below_drewN ?_ _) | (with_reducible refine Below.setCell ?_ ?_ _; rotate_left; (first | omega | (simp <;> omega))) | (with_reducible refine Below.alloc ?_ ?_ _; rotate_left; (first | omega | (simp <;> omega)))))
      have hsl : Sl (wr.alloc (.cells #[.int .i64 1, .int .i64 2] 46)) (wr.alloc (.cells #[.int .i64 1, .int .i64 2] 46)).heap.size 2 Shr.cells (some ⟨wr.heap.size, 0, none⟩) 1 exS := by
        refine ⟨rfl, fun _ => ⟨wr.heap.size, 0, rfl, by simp, fun i x hx j u hu => ?_⟩⟩
        match i, hx with
        | 0, hx =>
          simp [exS] at hx
          subst hx
          rw [cell_new _ _ _ _ _ rfl, ← Array.getElem?_toList, Nat.zero_mul, Nat.zero_add, Nat.zero_add]; exact hu
      refine (keep_any A 2 c (stk 3) (some ⟨wr.heap.size, 0, none⟩) 1 1 exS _ (hs.out.up hab) hsl (by omega) (by omega) ((stk_ok 3).le (by omega))).mono ?_
      rintro e w2 ⟨A2, c2, rfl, hs2, hb2, _⟩
      rw [ex_move] at hs2 ⊢
      have hl2 : exA.length = 2 := rfl
      simp only [hl2] at hs2 ⊢
      have hbw : Below w.heap.size w w2 := (hb.alloc hzz _).trans (hb2.mono (by simp; omega))
      obtain ⟨ab, ao, rfl, hlo, hat⟩ := hs2.at_ (by omega)
      have c1 : w2.cell? ⟨ab, ao + 8 + 7, none⟩ = some (.int .i64 1) := hat 1 _ rfl 7 _ rfl
      have c0 : w2.cell? ⟨ab, ao + 8, none⟩ = some (.int .i64 2) := hat 1 _ rfl 0 _ rfl
      have c1' : w2.cell? ⟨ab, ao + 15, none⟩ = some (.int .i64 1) := hat 1 _ rfl 7 _ rfl
      clear hat hs2
      go_wp2_with fail
      refine (add_any none 0 0 [] 3 w2 Sl.nil (by omega) (fun i x h => by simp at h)).mono ?_
      rintro e w3 ⟨A3, n3, c3, rfl, hn3, hs3, hb3, _, _⟩
      rw [ex_add] at hs3 hn3
      obtain rfl : n3 = 1 := hn3
      have hbw3 : Below w.heap.size w w3 := hbw.trans (hb3.mono hbw.size)
      go_wp2_with fail
      refine (sum_any A3 1 c3 _ w3 hs3 (by omega) ex_bnd).mono ?_
      rintro e w4 ⟨rfl, hb4⟩
      have hbw4 : Below w.heap.size w w4 := hbw3.trans (hb4.mono hbw3.size)
      rw [show sumS [⟨3, 1⟩] = 1 from rfl]
      go_wp2
      go_ret
      exact ⟨rfl, hbw4⟩
end Go.Proofs.Ytignbncphdemlaa
