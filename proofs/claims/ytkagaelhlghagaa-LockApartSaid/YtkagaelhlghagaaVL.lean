/- Whether locks are valid: the program. -/
import Derived.Test.YtkagaelhlghagaaKit2
import Derived.Test.YtkagaelhlghagaaPlain
namespace Go.Proofs.Ytkagaelhlghagaa
open Go.RowKit
set_option maxHeartbeats 4000000 in
theorem lock_valid (A : Option Addr) (n c : Nat) (l : List Lk) (w : World) (hs : Sl w w.heap.size 2 Lk.cells A n l) (hn : n ≤ 1000000) :
    Calls Try.prog 20 #[.slice A n c] w fun e w' => e = .returned (.bool (validB l)) ∧ Below w.heap.size w w' := by
  have HL := Lib.hid hs.len
  go_enter Try.func20, Try.ntmps20
  go_wp2_with fail
  go_loopw [7] (fun i wr => ∃ k : Nat, k ≤ n ∧ i = .int .i64 k ∧ Hid (∀ (i : Nat) (x : Lk), i < k → l[i]? = some x → OkAt l i x) ∧ Below w.heap.size w wr) (fun i _ => n - (intOf i).toNat)
  case atStart => exact ⟨0, Nat.zero_le _, rfl, Lib.hid (fun i x h => absurd h (by omega)), Below.refl _ _⟩
  case round =>
    obtain ⟨k, hk, rfl, hok, hb⟩ := hrel
    have hzz := hb.size
    by_cases hlt : k < n
    · obtain ⟨ab, ao, rfl, hlo, hat⟩ := hs.at_ (by omega)
      obtain ⟨x, hx⟩ : ∃ x, l[k]? = some x := ⟨_, List.getElem?_eq_getElem (by rw [HL.out]; exact hlt)⟩
      have c0 : wr.cell? ⟨ab, ao + k * 2, none⟩ = some (.int .i64 x.number) := (belc hb hlo).trans (hat k x hx 0 _ rfl)
      have c1 : wr.cell? ⟨ab, ao + k * 2 + 1, none⟩ = some (.int .i64 x.holder) := (belc hb hlo).trans (hat k x hx 1 _ rfl)
      have HX := Lib.hid hx
      obtain ⟨num, hol⟩ := x
      simp only at c0 c1
      by_cases hneg : 0 ≤ num
      · have HV := Lib.hid (validB_false hx (fun h => by have : num < 0 := h.1; omega))
        have g0 : decide (0 ≤ num) = true := by simp; omega
        clear hat hx
        go_wp2
        go_quiet (fail)
        go_wp2
        go_ret
        exact ⟨by rw [HV.out]; rfl, below_drewN ((by repeat (first | (with_reducible exact hb) | (with_reducible refine Below.drew ?_) | (with_reducible refine below_drewN ?_ _) | (with_reducible refine Below.setCell ?_ ?_ _; rotate_left; (first | omega | (simp <;> omega))) | (with_reducible refine Below.alloc ?_ ?_ _; rotate_left; (first | omega | (simp <;> omega)))))) _⟩
      · have g0 : decide (0 ≤ num) = false := by simp; omega
        by_cases h1 : hol = 1
        · subst h1
          rcases Nat.eq_zero_or_pos k with h0 | h0
          · subst h0
            rw [Nat.zero_mul, Nat.add_zero] at c0 c1
            have HO := Lib.hid (show OkAt l 0 ⟨num, 1⟩ from ⟨by show num < 0; omega, (.inl rfl), fun h => absurd h (by omega)⟩)
            clear hat hx
            go_wp2
            go_quiet (fail)
            go_wp2
            go_roundw
            case rel =>
              refine ⟨0 + 1, by omega, by go_num, Lib.hid (fun i z hi hz => ?_), below_drewN ((by repeat (first | (with_reducible exact hb) | (with_reducible refine Below.drew ?_) | (with_reducible refine below_drewN ?_ _) | (with_reducible refine Below.setCell ?_ ?_ _; rotate_left; (first | omega | (simp <;> omega))) | (with_reducible refine Below.alloc ?_ ?_ _; rotate_left; (first | omega | (simp <;> omega)))))) _⟩
              by_cases hik : i = 0
              · subst hik; rw [HX.out] at hz; injection hz with hz; subst hz; exact HO.out
              · exact hok.out i z (by omega) hz
            case measure => simp [intOf]; omega
          · obtain ⟨q, rfl⟩ : ∃ q, k = q + 1 := ⟨k - 1, by omega⟩
            obtain ⟨y, hy⟩ : ∃ y, l[q]? = some y := ⟨_, List.getElem?_eq_getElem (by rw [HL.out]; omega)⟩
            have d0 : wr.cell? ⟨ab, ao + q * 2, none⟩ = some (.int .i64 y.number) := (belc hb hlo).trans (hat q y hy 0 _ rfl)
            have e1 : wrap64 ((q : Int) + 1 - 1) = (q : Int) := by unfold wrap64; omega
            have hqn : (q : Int) < (n : Int) := by omega
            have hab : ab < wr.heap.size := by omega
            have e3 : IntKind.i64.wrap (q : Int) = q := by rw [IntKind.wrap_i64]; omega
            have hq0 : (0 : Int) < (q : Int) + 1 := by omega
            by_cases hyx : y.number < num
            · have HO := Lib.hid (show OkAt l (q + 1) ⟨num, 1⟩ from ⟨by show num < 0; omega, (.inl rfl), fun _ z hz => by rw [Nat.add_sub_cancel, hy] at hz; injection hz with hz; subst hz; exact hyx⟩)
              have g1 : decide (num ≤ y.number) = false := by simp; omega
              clear hat hx hy
              go_wp2
              go_quiet (fail)
              go_wp2
              go_roundw
              case rel =>
                refine ⟨(q + 1) + 1, by omega, by go_num, Lib.hid (fun i z hi hz => ?_), below_drewN ((by repeat (first | (with_reducible exact hb) | (with_reducible refine Below.drew ?_) | (with_reducible refine below_drewN ?_ _) | (with_reducible refine Below.setCell ?_ ?_ _; rotate_left; (first | omega | (simp <;> omega))) | (with_reducible refine Below.alloc ?_ ?_ _; rotate_left; (first | omega | (simp <;> omega)))))) _⟩
                by_cases hik : i = (q + 1)
                · subst hik; rw [HX.out] at hz; injection hz with hz; subst hz; exact HO.out
                · exact hok.out i z (by omega) hz
              case measure => simp [intOf]; omega
            · have HV := Lib.hid (validB_false hx (fun h => by have h3 : y.number < num := h.2.2 (by omega) y (by rw [Nat.add_sub_cancel]; exact hy); omega))
              have g1 : decide (num ≤ y.number) = true := by simp; omega
              have g2 : num ≤ y.number := by omega
              clear hat hx hy
              go_wp2
              go_quiet (fail)
              go_wp2
              go_ret
              exact ⟨by rw [HV.out]; rfl, below_drewN ((by repeat (first | (with_reducible exact hb) | (with_reducible refine Below.drew ?_) | (with_reducible refine below_drewN ?_ _) | (with_reducible refine Below.setCell ?_ ?_ _; rotate_left; (first | omega | (simp <;> omega))) | (with_reducible refine Below.alloc ?_ ?_ _; rotate_left; (first | omega | (simp <;> omega)))))) _⟩
        · by_cases h2 : hol = 2
          · subst h2
            rcases Nat.eq_zero_or_pos k with h0 | h0
            · subst h0
              rw [Nat.zero_mul, Nat.add_zero] at c0 c1
              have HO := Lib.hid (show OkAt l 0 ⟨num, 2⟩ from ⟨by show num < 0; omega, (.inr rfl), fun h => absurd h (by omega)⟩)
              clear hat hx
              go_wp2
              go_quiet (fail)
              go_wp2
              go_roundw
              case rel =>
                refine ⟨0 + 1, by omega, by go_num, Lib.hid (fun i z hi hz => ?_), below_drewN ((by repeat (first | (with_reducible exact hb) | (with_reducible refine Below.drew ?_) | (with_reducible refine below_drewN ?_ _) | (with_reducible refine Below.setCell ?_ ?_ _; rotate_left; (first | omega | (simp <;> omega))) | (with_reducible refine Below.alloc ?_ ?_ _; rotate_left; (first | omega | (simp <;> omega)))))) _⟩
                by_cases hik : i = 0
                · subst hik; rw [HX.out] at hz; injection hz with hz; subst hz; exact HO.out
                · exact hok.out i z (by omega) hz
              case measure => simp [intOf]; omega
            · obtain ⟨q, rfl⟩ : ∃ q, k = q + 1 := ⟨k - 1, by omega⟩
              obtain ⟨y, hy⟩ : ∃ y, l[q]? = some y := ⟨_, List.getElem?_eq_getElem (by rw [HL.out]; omega)⟩
              have d0 : wr.cell? ⟨ab, ao + q * 2, none⟩ = some (.int .i64 y.number) := (belc hb hlo).trans (hat q y hy 0 _ rfl)
              have e1 : wrap64 ((q : Int) + 1 - 1) = (q : Int) := by unfold wrap64; omega
              have hqn : (q : Int) < (n : Int) := by omega
              have hab : ab < wr.heap.size := by omega
              have e3 : IntKind.i64.wrap (q : Int) = q := by rw [IntKind.wrap_i64]; omega
              have hq0 : (0 : Int) < (q : Int) + 1 := by omega
              by_cases hyx : y.number < num
              · have HO := Lib.hid (show OkAt l (q + 1) ⟨num, 2⟩ from ⟨by show num < 0; omega, (.inr rfl), fun _ z hz => by rw [Nat.add_sub_cancel, hy] at hz; injection hz with hz; subst hz; exact hyx⟩)
                have g1 : decide (num ≤ y.number) = false := by simp; omega
                clear hat hx hy
                go_wp2
                go_quiet (fail)
                go_wp2
                go_roundw
                case rel =>
                  refine ⟨(q + 1) + 1, by omega, by go_num, Lib.hid (fun i z hi hz => ?_), below_drewN ((by repeat (first | (with_reducible exact hb) | (with_reducible refine Below.drew ?_) | (with_reducible refine below_drewN ?_ _) | (with_reducible refine Below.setCell ?_ ?_ _; rotate_left; (first | omega | (simp <;> omega))) | (with_reducible refine Below.alloc ?_ ?_ _; rotate_left; (first | omega | (simp <;> omega)))))) _⟩
                  by_cases hik : i = (q + 1)
                  · subst hik; rw [HX.out] at hz; injection hz with hz; subst hz; exact HO.out
                  · exact hok.out i z (by omega) hz
                case measure => simp [intOf]; omega
              · have HV := Lib.hid (validB_false hx (fun h => by have h3 : y.number < num := h.2.2 (by omega) y (by rw [Nat.add_sub_cancel]; exact hy); omega))
                have g1 : decide (num ≤ y.number) = true := by simp; omega
                have g2 : num ≤ y.number := by omega
                clear hat hx hy
                go_wp2
                go_quiet (fail)
                go_wp2
                go_ret
                exact ⟨by rw [HV.out]; rfl, below_drewN ((by repeat (first | (with_reducible exact hb) | (with_reducible refine Below.drew ?_) | (with_reducible refine below_drewN ?_ _) | (with_reducible refine Below.setCell ?_ ?_ _; rotate_left; (first | omega | (simp <;> omega))) | (with_reducible refine Below.alloc ?_ ?_ _; rotate_left; (first | omega | (simp <;> omega)))))) _⟩
          · have HV := Lib.hid (validB_false hx (fun h => by have : hol = 1 ∨ hol = 2 := h.2.1; omega))
            have g1 : (hol != 1) = true := by simp; omega
            have g2 : (hol != 2) = true := by simp; omega
            clear hat hx
            go_wp2
            go_quiet (fail)
            go_wp2
            go_ret
            exact ⟨by rw [HV.out]; rfl, below_drewN ((by repeat (first | (with_reducible exact hb) | (with_reducible refine Below.drew ?_) | (with_reducible refine below_drewN ?_ _) | (with_reducible refine Below.setCell ?_ ?_ _; rotate_left; (first | omega | (simp <;> omega))) | (with_reducible refine Below.alloc ?_ ?_ _; rotate_left; (first | omega | (simp <;> omega)))))) _⟩
    · obtain rfl : k = n := by omega
      have HV := Lib.hid (validB_true (l := l) (fun i x hx => hok.out i x (by have := (List.getElem?_eq_some_iff.1 hx).1; rw [HL.out] at this; exact this) hx))
      go_wp2
      go_ret
      exact ⟨by rw [HV.out]; rfl, hb⟩
end Go.Proofs.Ytkagaelhlghagaa
