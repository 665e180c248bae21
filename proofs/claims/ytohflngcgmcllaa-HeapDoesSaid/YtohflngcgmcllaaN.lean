/- Whether a heap is valid: the reference. Copies that the laws keep. -/
import Derived.Test.YtohflngcgmcllaaV
import Derived.Test.YtohflngcgmcllaaD
import Derived.Deep.RegionLaw
namespace Go.Proofs.Ytohflngcgmcllaa
open Go.RowKit

set_option maxHeartbeats 4000000 in
theorem refvalid_any (A : Option Addr) (n c : Nat) (l : List Ob) (w : World) (hs : Sl w w.heap.size 2 Ob.cells A n l) (hn : n ≤ 9000000000000) :
    Calls Try.prog 20 #[.agg #[.slice A n c]] w fun e w' => e = .returned (.bool (validB (l.map Ob.po))) ∧ Below w.heap.size w w' := by
  have HL := Lib.hid hs.len
  obtain ⟨w1, hw1⟩ : ∃ w1, w1 = w.alloc (.cells #[.slice A n c] 24) := ⟨_, rfl⟩
  have hb1 : Below w.heap.size w w1 := by rw [hw1]; exact (by repeat (first | (with_reducible exact (Below.refl _ _)) | (with_reducible refine Below.drew ?_) | (with_reducible refine below_drewN ?_ _) | (with_reducible refine Below.setCell ?_ ?_ _; rotate_left; (first | omega | (simp <;> omega))) | (with_reducible refine Below.alloc ?_ ?_ _; rotate_left; (first | omega | (simp <;> omega)))))
  have hz1 : w.heap.size + 1 ≤ w1.heap.size := by rw [hw1]; simp
  have HA := Lib.hid (show w1.cell? ⟨w.heap.size, 0, none⟩ = some (.slice A n c) from by rw [hw1, cell_new _ _ _ _ _ rfl]; rfl)
  have a1 := HA.out
  go_enter Try.func20, Try.ntmps20
  go_wp2_with fail
  rw [← hw1]
  have HW1 := Lib.hid hw1
  clear hw1
  go_wp2_with fail
  clear a1
  go_loopw [8] (fun i wr => ∃ k : Nat, k ≤ n ∧ i = .int .i64 k ∧ Hid (∀ (i : Nat) (x : Ob), i < k → l[i]? = some x → OkAt (l.map Ob.po) i x.po) ∧ Below w1.heap.size w1 wr) (fun i _ => n - (intOf i).toNat)
  case atStart => exact ⟨0, Nat.zero_le _, rfl, Lib.hid (fun i x h => absurd h (by omega)), Below.refl _ _⟩
  case round =>
    obtain ⟨k, hk, rfl, hok, hb⟩ := hrel
    have hzz := hb.size
    have hbw : Below w.heap.size w wr := hb1.trans (hb.mono hb1.size)
    have hA : wr.cell? ⟨w.heap.size, 0, none⟩ = some (.slice A n c) := (belc hb (by omega)).trans HA.out
    have l0 : w.heap.size < wr.heap.size := by omega
    by_cases hlt : k < n
    · obtain ⟨ab, ao, rfl, hlo, hat⟩ := hs.at_ (by omega)
      obtain ⟨x, hx⟩ : ∃ x, l[k]? = some x := ⟨_, List.getElem?_eq_getElem (by rw [HL.out]; exact hlt)⟩
      have c0 : wr.cell? ⟨ab, ao + k * 2, none⟩ = some (.int .i64 x.id) := (belc hbw hlo).trans (hat k x hx 0 _ rfl)
      have c1 : wr.cell? ⟨ab, ao + k * 2 + 1, none⟩ = some (.slice x.A x.n x.c) := (belc hbw hlo).trans (hat k x hx 1 _ rfl)
      have lab : ab < wr.heap.size := by omega
      have HX := Lib.hid hx
      have go_on : ∀ wq, Below w1.heap.size w1 wq → OkAt (l.map Ob.po) k x.po → ∃ k', k' ≤ n ∧ Value.int .i64 ((k : Int) + 1) = .int .i64 (k' : Int) ∧ Hid (∀ (i : Nat) (x : Ob), i < k' → l[i]? = some x → OkAt (l.map Ob.po) i x.po) ∧ Below w1.heap.size w1 wq := fun wq hq ho =>
        ⟨k + 1, by omega, by go_num, Lib.hid (fun i z hi hz => by
          by_cases hik : i = k
          · subst hik; rw [HX.out] at hz; injection hz with hz; subst hz; exact ho
          · exact hok.out i z (by omega) hz), hq⟩
      have GO := Lib.hid go_on
      clear go_on
      by_cases h1 : x.id < 1
      · have HV := Lib.hid (validB_false (po_at HX.out) (fun h => by have h2 : (0 : Int) < x.id := h.1; omega))
        clear hat hx
        go_wp2
        go_quiet (fail)
        go_wp2
        go_ret
        exact ⟨by rw [HV.out]; rfl, below_drewN ((by repeat (first | (with_reducible exact hbw) | (with_reducible refine Below.drew ?_) | (with_reducible refine below_drewN ?_ _) | (with_reducible refine Below.setCell ?_ ?_ _; rotate_left; (first | omega | (simp <;> omega))) | (with_reducible refine Below.alloc ?_ ?_ _; rotate_left; (first | omega | (simp <;> omega)))))) _⟩
      · by_cases hk0 : k = 0
        · have HO := Lib.hid (show OkAt (l.map Ob.po) k x.po from ⟨by show (0 : Int) < x.id; omega, fun h => absurd h (by omega)⟩)
          have hnk : decide (0 < k) = false := decide_eq_false (by omega)
          have hd1 : decide (x.id < 1) = false := decide_eq_false (by omega)
          clear hat hx hk0
          go_wp2
          go_quiet (fail)
          go_wp2
          go_roundw
          case rel => exact GO.out _ (below_drewN ((by repeat (first | (with_reducible exact hb) | (with_reducible refine Below.drew ?_) | (with_reducible refine below_drewN ?_ _) | (with_reducible refine Below.setCell ?_ ?_ _; rotate_left; (first | omega | (simp <;> omega))) | (with_reducible refine Below.alloc ?_ ?_ _; rotate_left; (first | omega | (simp <;> omega)))))) _) HO.out
          case measure => simp [intOf]; omega
        · obtain ⟨q, hq⟩ : ∃ q : Nat, k = q + 1 := ⟨k - 1, by omega⟩
          have hkI : (k : Int) - 1 = (q : Int) := by omega
          have hk0I : decide (0 < k) = true := decide_eq_true (by omega)
          have hwr : IntKind.i64.wrap (q : Int) = (q : Int) := by rw [IntKind.wrap_i64]; omega
          obtain ⟨y, hy⟩ : ∃ y, l[q]? = some y := ⟨_, List.getElem?_eq_getElem (by rw [HL.out]; omega)⟩
          have d0 : wr.cell? ⟨ab, ao + q * 2, none⟩ = some (.int .i64 y.id) := (belc hbw hlo).trans (hat q y hy 0 _ rfl)
          have hqI : (q : Int) < (n : Int) := by omega
          have HY := Lib.hid hy
          have HQ := Lib.hid hq
          clear hq
          by_cases h2 : x.id ≤ y.id
          · have HV := Lib.hid (validB_false (po_at HX.out) (fun h => by have h3 : y.id < x.id := h.2 (by omega) y.po (by rw [HQ.out, Nat.add_sub_cancel]; exact po_at HY.out); omega))
            clear hat hx hy
            go_wp2
            go_quiet (fail)
            go_wp2
            go_ret
            exact ⟨by rw [HV.out]; rfl, below_drewN ((by repeat (first | (with_reducible exact hbw) | (with_reducible refine Below.drew ?_) | (with_reducible refine below_drewN ?_ _) | (with_reducible refine Below.setCell ?_ ?_ _; rotate_left; (first | omega | (simp <;> omega))) | (with_reducible refine Below.alloc ?_ ?_ _; rotate_left; (first | omega | (simp <;> omega)))))) _⟩
          · have HO := Lib.hid (show OkAt (l.map Ob.po) k x.po from ⟨by show (0 : Int) < x.id; omega, fun _ z hz => by
              rw [HQ.out, Nat.add_sub_cancel, po_at HY.out] at hz; injection hz with hz; subst hz; show y.id < x.id; omega⟩)
            clear hat hx hy
            go_wp2
            go_quiet (fail)
            go_wp2
            go_roundw
            case rel => exact GO.out _ (below_drewN ((by repeat (first | (with_reducible exact hb) | (with_reducible refine Below.drew ?_) | (with_reducible refine below_drewN ?_ _) | (with_reducible refine Below.setCell ?_ ?_ _; rotate_left; (first | omega | (simp <;> omega))) | (with_reducible refine Below.alloc ?_ ?_ _; rotate_left; (first | omega | (simp <;> omega)))))) _) HO.out
            case measure => simp [intOf]; omega
    · obtain rfl : k = n := by omega
      have HV := Lib.hid (show validB (l.map Ob.po) = true from validB_true fun i z hz => by
        obtain ⟨y, hy, rfl⟩ := po_at' hz
        exact hok.out i y (by have := (List.getElem?_eq_some_iff.1 hy).1; have := HL.out; omega) hy)
      go_wp2
      go_ret
      exact ⟨by rw [HV.out]; rfl, hbw⟩

set_option maxHeartbeats 4000000 in
theorem values_any (A : Option Addr) (n c : Nat) (s : List Val) (w : World) (hx : Sl w w.heap.size 2 Val.cells A n s) (hn : n ≤ 8796093021952) :
    Calls Try.prog 35 #[.slice A n c] w fun e w' => ∃ (A' : Option Addr) (c' : Nat), e = .returned (.slice A' n c') ∧ Hid (w'.ownsRow w.heap.size 29 2 (.slice A' n c') n (s.flatMap Val.cells)) ∧ Below w.heap.size w w' := by
  obtain ⟨i0, hi, hz0, hz1, hz2⟩ := info_parts CloneVal.infoE
  have HS := Lib.hid (hx.src Val.size)
  have HL := Lib.hid hx.len
  clear hx
  go_enter Try.func35, Try.ntmps35
  go_wp2_with (at_builtin; refine wpList_append_any rfl _ _ 25 rfl w.heap.size 29 i0 _ 2 16 Try.underlying25 hi hz0 hz1 hz2 rfl (by decide) (.slice none 0 0) 0 [] (by simp [Act.eval]) (World.ownsRow_nil _ _ _ _) A n c (s.flatMap Val.cells) (by simp [Act.eval]) HS.out.1 (by rw [flat_len Val.size, HL.out]) HS.out.2 (val_one s) (by unfold maxLen; omega) (by omega) (Nat.le_refl _) ?_; intro A3 c3 w3 hown3 hgr3 hA3; have H3 := Lib.hid hown3; have hb3 : Below w.heap.size w w3 := (Below.refl _ _).grown hgr3 (Nat.le_refl _) (fun k hk => by cases hk); clear hown3 hgr3 hA3)
  go_ret
  exact ⟨A3, c3, by simp, Lib.hid (by simpa using own_eq (Nat.zero_add n) H3.out), hb3⟩
end Go.Proofs.Ytohflngcgmcllaa
