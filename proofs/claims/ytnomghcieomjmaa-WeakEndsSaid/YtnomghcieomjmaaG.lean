/- Whether a store can go into memory. -/
import Derived.Test.YtnomghcieomjmaaIdxW
import Derived.BigQuiet
namespace Go.Proofs.Ytnomghcieomjmaa
open Go.RowKit

def arrB (m : Int) (q : List Wt) (k : Nat) (x : Wt) : Bool := if m = 1 then decide (k = 0) else !((q.take k).any fun y => decide (y.word = x.word))

theorem Sl.take {α : Type} {w : World} {B sz : Nat} {cells : α → List Value} {A : Option Addr} {n k : Nat} {l : List α} (h : Sl w B sz cells A n l) (hk : k ≤ n) : Sl w B sz cells A k (l.take k) := by
  refine ⟨by rw [List.length_take, h.len]; omega, fun h0 => ?_⟩
  obtain ⟨ab, ao, e, hlt, hc⟩ := h.at_ (by omega)
  refine ⟨ab, ao, e, hlt, fun i x hx j u hu => hc i x ?_ j u hu⟩
  rw [List.getElem?_take] at hx
  by_cases hik : i < k
  · rwa [if_pos hik] at hx
  · rw [if_neg hik] at hx; exact absurd hx (by simp)

theorem clo_any (x y : Wt) (p p2 : Nat) (ab ao n c k : Nat) (w : World) (hp : w.cell? ⟨p, 0, none⟩ = some (.slice (some ⟨ab, ao, none⟩) n c)) (hp2 : w.cell? ⟨p2, 0, none⟩ = some (.int .i64 k)) (hk : k < n)
    (h0 : w.cell? ⟨ab, ao + k * 2, none⟩ = some (.int .i64 y.word)) (hl : p < w.heap.size) (hl2 : p2 < w.heap.size) (hla : ab < w.heap.size) :
    Calls Try.prog 52 #[.agg #[.int .i64 x.word, .int .i64 x.n], .pointer (some ⟨p, 0, none⟩), .pointer (some ⟨p2, 0, none⟩)] w fun e w' => e = .returned (.bool (decide (x.word = y.word))) ∧ Below w.heap.size w w' := by
  have hkI : (k : Int) < (n : Int) := by omega
  obtain ⟨W1, hW1⟩ : ∃ W1, W1 = w.alloc (.cells #[.int .i64 x.word, .int .i64 x.n] 72) := ⟨_, rfl⟩
  have hb1 : Below w.heap.size w W1 := by rw [hW1]; exact (by repeat (first | (with_reducible exact (Below.refl _ _)) | (with_reducible refine Below.drew ?_) | (with_reducible refine below_drewN ?_ _) | (with_reducible refine Below.setCell ?_ ?_ _; rotate_left; (first | omega | (simp <;> omega))) | (with_reducible refine Below.alloc ?_ ?_ _; rotate_left; (first | omega | (simp <;> omega)))))
  have q0 := (belc hb1 hl).trans hp
  have q1 := (belc hb1 hl2).trans hp2
  have q2 := (belc hb1 hla).trans h0
  have q3 : W1.cell? ⟨w.heap.size, 0, none⟩ = some (.int .i64 x.word) := (by rw [hW1, cell_new _ _ _ _ _ (by simp <;> omega)]; rfl)
  go_enter Try.func52, Try.ntmps52
  go_upto_region 1 with fail
  rw [← hW1]
  have HW := Lib.hid hW1
  clear hW1
  go_quiet (fail)
  go_wp2
  go_ret
  exact ⟨by simp <;> rfl, below_drewN hb1 _⟩

theorem idx_any (q : Wt → Bool) (l : List Wt) : decide (0 ≤ IdxWt.idx q l) = l.any q := by
  rcases IdxWt.idx_cases q l with ⟨h, hn⟩ | ⟨k, x, h, hk, hx, hq, _⟩
  · rw [h, List.any_eq_false.2 (fun x hx => by obtain ⟨i, hi⟩ := List.getElem?_of_mem hx; rw [hn i x hi]; simp)]; rfl
  · rw [h, List.any_eq_true.2 ⟨x, List.mem_of_getElem? hx, hq⟩, decide_eq_true (by omega)]
theorem contains_any (A : Option Addr) (n c : Nat) (l : List Wt) (q : Wt → Bool) (p p2 : Nat) (w : World) (hs : Sl w w.heap.size 2 Wt.cells A n l) (hn : n ≤ 9223372036854775807)
    (hf : ∀ x, x ∈ l → ∀ w', Below w.heap.size w w' → Calls Try.prog 52 #[.agg #[.int .i64 x.word, .int .i64 x.n], .pointer (some ⟨p, 0, none⟩), .pointer (some ⟨p2, 0, none⟩)] w' fun e w'' => e = .returned (.bool (q x)) ∧ Below w'.heap.size w' w'') :
    Calls Try.prog 51 #[.slice A n c, .func (.func 52) #[] #[.pointer (some ⟨p, 0, none⟩), .pointer (some ⟨p2, 0, none⟩)]] w fun e w' => e = .returned (.bool (l.any q)) ∧ Below w.heap.size w w' := by
  have HS := Lib.hid hs
  have HF := Lib.hid hf
  clear hf hs
  go_enter Try.func51, Try.ntmps51
  go_wp2_with (go_at_call 62; refine (IdxWt.any A n c l q p p2 _ HS.out hn HF.out).mono ?_; rintro e Y ⟨rfl, hY⟩)
  go_ret
  exact ⟨by rw [← idx_any]; rfl, hY⟩

set_option maxHeartbeats 1000000 in
theorem arrives_any (m : Int) (A : Option Addr) (n c : Nat) (q : List Wt) (k : Nat) (x : Wt) (w : World) (hs : Sl w w.heap.size 2 Wt.cells A n q) (hx : q[k]? = some x) (hnc : n ≤ c) (hc : c ≤ 9223372036854775807) :
    Calls Try.prog 33 #[.int .i64 m, .slice A n c, .int .i64 k] w fun e w' => e = .returned (.bool (arrB m q k x)) ∧ Below w.heap.size w w' := by
  have hkn : k < n := by rw [← hs.len]; exact (List.getElem?_eq_some_iff.1 hx).1
  have HS := Lib.hid hs
  obtain ⟨ab, ao, rfl, hlo, hat⟩ := hs.at_ (by omega)
  obtain ⟨W1, hW1⟩ : ∃ W1, W1 = (w.alloc (.cells #[.slice (some ⟨ab, ao, none⟩) n c] 45)).alloc (.cells #[.int .i64 k] 3) := ⟨_, rfl⟩
  have hb1 : Below w.heap.size w W1 := by rw [hW1]; exact (by repeat (first | (with_reducible exact (Below.refl _ _)) | (with_reducible refine Below.drew ?_) | (with_reducible refine below_drewN ?_ _) | (with_reducible refine Below.setCell ?_ ?_ _; rotate_left; (first | omega | (simp <;> omega))) | (with_reducible refine Below.alloc ?_ ?_ _; rotate_left; (first | omega | (simp <;> omega)))))
  have hz1 : w.heap.size + 2 ≤ W1.heap.size := by rw [hW1]; simp
  have q0 : W1.cell? ⟨w.heap.size, 0, none⟩ = some (.slice (some ⟨ab, ao, none⟩) n c) := (by rw [hW1, cell_old _ _ _ _ (by simp <;> omega), cell_new _ _ _ _ _ (by simp <;> omega)]; rfl)
  have q1 : W1.cell? ⟨w.heap.size + 1, 0, none⟩ = some (.int .i64 k) := (by rw [hW1, cell_new _ _ _ _ _ (by simp <;> omega)]; rfl)
  have c0 := Lib.hid ((belc hb1 hlo).trans (hat k x hx 0 _ rfl))
  have hla : ab < W1.heap.size := Nat.lt_of_lt_of_le hlo hb1.size
  have HX := Lib.hid hx
  clear hat hx hs
  have hkI : (k : Int) ≤ (c : Int) := by omega
  go_enter Try.func33, Try.ntmps33
  go_upto_region 1 with fail
  rw [← hW1]
  have HW := Lib.hid hW1
  clear hW1
  by_cases h1 : m = 1
  · subst h1
    have hv := Lib.hid (show arrB 1 q k x = decide (k = 0) from by simp [arrB])
    go_wp2
    go_ret
    exact ⟨by rw [hv.out]; simp <;> (first | rfl | (rw [Bool.eq_iff_iff]; simp <;> omega)), hb1⟩
  · have h1' : (m == 1) = false := by simpa using h1
    have hv := Lib.hid (show arrB m q k x = !((q.take k).any fun y => decide (y.word = x.word)) from by simp [arrB, h1])
    go_wp2_with (go_at_call 51; refine (contains_any (some ⟨ab, ao, none⟩) k c (q.take k) (fun y => decide (y.word = x.word)) w.heap.size (w.heap.size + 1) W1 ((HS.out.up hb1).take (by omega)) (by omega) (fun y hy w' hw' => clo_any y x w.heap.size (w.heap.size + 1) ab ao n c k w' ((belc hw' (by omega)).trans q0) ((belc hw' (by omega)).trans q1) hkn ((belc hw' hla).trans c0.out) (by have := hw'.size; omega) (by have := hw'.size; omega) (by have := hw'.size; omega))).mono ?_; rintro e Y ⟨rfl, hY⟩)
    go_ret
    exact ⟨by rw [hv.out]; rfl, hb1.trans (hY.mono hb1.size)⟩
end Go.Proofs.Ytnomghcieomjmaa
