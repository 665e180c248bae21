/- Whether a heap is valid, and whether it is too large: the program, the law. -/
import Derived.Test.YtohflngcgmcllaaA
namespace Go.Proofs.Ytohflngcgmcllaa
open Go.RowKit

def lastId (l : List Ob) : Nat → Int
  | 0 => 0
  | k + 1 => match l[k]? with | some x => x.id | none => 0

set_option maxHeartbeats 1000000 in
theorem valid_any (A : Option Addr) (n c : Nat) (l : List Ob) (w : World) (hs : Sl w w.heap.size 2 Ob.cells A n l) (hn : n ≤ 9000000000000) :
    Calls Try.prog 19 #[.agg #[.slice A n c]] w fun e w' => e = .returned (.bool (validB (l.map Ob.po))) ∧ Below w.heap.size w w' := by
  have HL := Lib.hid hs.len
  go_enter Try.func19, Try.ntmps19
  go_wp2_with fail
  go_loopw [3, 9] (fun s i wr => ∃ k : Nat, k ≤ n ∧ i = .int .i64 k ∧ s = .int .i64 (lastId l k) ∧ Hid (∀ (i : Nat) (x : Ob), i < k → l[i]? = some x → OkAt (l.map Ob.po) i x.po) ∧ Below w.heap.size w wr) (fun _ i _ => n - (intOf i).toNat)
  case atStart => exact ⟨0, Nat.zero_le _, rfl, rfl, Lib.hid (fun i x h => absurd h (by omega)), (by repeat (first | (with_reducible exact (Below.refl _ _)) | (with_reducible refine Below.drew ?_) | (with_reducible refine below_drewN ?_ _) | (with_reducible refine Below.setCell ?_ ?_ _; rotate_left; (first | omega | (simp <;> omega))) | (with_reducible refine Below.alloc ?_ ?_ _; rotate_left; (first | omega | (simp <;> omega)))))⟩
  case round =>
    obtain ⟨k, hk, rfl, rfl, hok, hb⟩ := hrel
    have hzz := hb.size
    by_cases hlt : k < n
    · obtain ⟨ab, ao, rfl, hlo, hat⟩ := hs.at_ (by omega)
      obtain ⟨x, hx⟩ : ∃ x, l[k]? = some x := ⟨_, List.getElem?_eq_getElem (by rw [HL.out]; exact hlt)⟩
      have c0 : wr.cell? ⟨ab, ao + k * 2, none⟩ = some (.int .i64 x.id) := (belc hb hlo).trans (hat k x hx 0 _ rfl)
      have c1 : wr.cell? ⟨ab, ao + k * 2 + 1, none⟩ = some (.slice x.A x.n x.c) := (belc hb hlo).trans (hat k x hx 1 _ rfl)
      have HLN := Lib.hid (show lastId l (k + 1) = x.id from by simp [lastId, hx])
      by_cases he : x.id ≤ lastId l k
      · have HV := Lib.hid (validB_false (po_at hx) (fun h => by
          obtain ⟨h1, h2⟩ := h
          match k, he, hx, h2 with
          | 0, he, hx, h2 => have : x.id ≤ 0 := he; have : (0 : Int) < x.id := h1; omega
          | q + 1, he, hx, h2 =>
            obtain ⟨y, hy⟩ : ∃ y, l[q]? = some y := ⟨_, List.getElem?_eq_getElem (by rw [HL.out]; omega)⟩
            have h3 : y.id < x.id := h2 (by omega) y.po (by rw [Nat.add_sub_cancel]; exact po_at hy)
            have h4 : lastId l (q + 1) = y.id := by simp [lastId, hy]
            omega))
        clear hat hx
        go_wp2
        go_ret
        exact ⟨by rw [HV.out]; rfl, (by repeat (first | (with_reducible exact hb) | (with_reducible refine Below.drew ?_) | (with_reducible refine below_drewN ?_ _) | (with_reducible refine Below.setCell ?_ ?_ _; rotate_left; (first | omega | (simp <;> omega))) | (with_reducible refine Below.alloc ?_ ?_ _; rotate_left; (first | omega | (simp <;> omega)))))⟩
      · have HO := Lib.hid (show OkAt (l.map Ob.po) k x.po from by
          refine ⟨?_, fun h0 z hz => ?_⟩
          · show 0 < x.id
            rcases Nat.eq_zero_or_pos k with h0 | h0
            · subst h0; have : lastId l 0 = 0 := rfl; omega
            · obtain ⟨q, rfl⟩ : ∃ q, k = q + 1 := ⟨k - 1, by omega⟩
              obtain ⟨y, hy⟩ : ∃ y, l[q]? = some y := ⟨_, List.getElem?_eq_getElem (by rw [HL.out]; omega)⟩
              have h4 : lastId l (q + 1) = y.id := by simp [lastId, hy]
              have h5 : (0 : Int) < y.id := (hok.out q y (by omega) hy).1
              omega
          · obtain ⟨q, rfl⟩ : ∃ q, k = q + 1 := ⟨k - 1, by omega⟩
            obtain ⟨y, hy, rfl⟩ := po_at' hz
            rw [Nat.add_sub_cancel] at hy
            have h4 : lastId l (q + 1) = y.id := by simp [lastId, hy]
            show y.id < x.id
            omega)
        have HX := Lib.hid hx
        clear hat hx
        go_wp2
        go_roundw
        case rel =>
          refine ⟨k + 1, by omega, by go_num, by rw [HLN.out], Lib.hid (fun i z hi hz => ?_), (by repeat (first | (with_reducible exact hb) | (with_reducible refine Below.drew ?_) | (with_reducible refine below_drewN ?_ _) | (with_reducible refine Below.setCell ?_ ?_ _; rotate_left; (first | omega | (simp <;> omega))) | (with_reducible refine Below.alloc ?_ ?_ _; rotate_left; (first | omega | (simp <;> omega)))))⟩
          by_cases hik : i = k
          · subst hik; rw [HX.out] at hz; injection hz with hz; subst hz; exact HO.out
          · exact hok.out i z (by omega) hz
        case measure => simp [intOf]; omega
    · obtain rfl : k = n := by omega
      have HV := Lib.hid (validB_true (l := l.map Ob.po) (fun i x hx => by
        obtain ⟨z, hz, rfl⟩ := po_at' hx
        exact hok.out i z (by have := (List.getElem?_eq_some_iff.1 hz).1; rw [HL.out] at this; exact this) hz))
      go_wp2
      go_ret
      exact ⟨by rw [HV.out]; rfl, hb⟩

set_option maxHeartbeats 1000000 in
theorem big_any (A : Option Addr) (n c : Nat) (l : List Ob) (w : World) (hs : Sl w w.heap.size 2 Ob.cells A n l) (hn : n ≤ 9000000000000) (hf : ∀ o ∈ l, o.n ≤ 9000000000000) :
    Calls Try.prog 7 #[.agg #[.slice A n c]] w fun e w' => ∃ b, e = .returned (.bool b) ∧ Below w.heap.size w w' := by
  have HL := Lib.hid hs.len
  have HF := Lib.hid hf
  clear hf
  go_enter Try.func7, Try.ntmps7
  go_wp2_with fail
  go_loopw [3, 9] (fun s i wr => ∃ (k : Nat) (S : Int), k ≤ n ∧ i = .int .i64 k ∧ s = .int .i64 S ∧ -9223372036854775808 ≤ S ∧ S ≤ 9223372036854775807 ∧ Below w.heap.size w wr) (fun _ i _ => n - (intOf i).toNat)
  case atStart => exact ⟨0, 0, Nat.zero_le _, rfl, rfl, by omega, by omega, (by repeat (first | (with_reducible exact (Below.refl _ _)) | (with_reducible refine Below.drew ?_) | (with_reducible refine below_drewN ?_ _) | (with_reducible refine Below.setCell ?_ ?_ _; rotate_left; (first | omega | (simp <;> omega))) | (with_reducible refine Below.alloc ?_ ?_ _; rotate_left; (first | omega | (simp <;> omega)))))⟩
  case round =>
    obtain ⟨k, S, hk, rfl, rfl, hS0, hS1, hb⟩ := hrel
    have hzz := hb.size
    by_cases hlt : k < n
    · obtain ⟨ab, ao, rfl, hlo, hat⟩ := hs.at_ (by omega)
      obtain ⟨x, hx⟩ : ∃ x, l[k]? = some x := ⟨_, List.getElem?_eq_getElem (by rw [HL.out]; exact hlt)⟩
      have c0 : wr.cell? ⟨ab, ao + k * 2, none⟩ = some (.int .i64 x.id) := (belc hb hlo).trans (hat k x hx 0 _ rfl)
      have c1 : wr.cell? ⟨ab, ao + k * 2 + 1, none⟩ = some (.slice x.A x.n x.c) := (belc hb hlo).trans (hat k x hx 1 _ rfl)
      have hxn := HF.out x (List.mem_of_getElem? hx)
      clear hat hx
      go_wp2
      go_roundw
      case rel => exact ⟨k + 1, _, by omega, by go_num, rfl, by unfold wrap64; omega, by unfold wrap64; omega, (by repeat (first | (with_reducible exact hb) | (with_reducible refine Below.drew ?_) | (with_reducible refine below_drewN ?_ _) | (with_reducible refine Below.setCell ?_ ?_ _; rotate_left; (first | omega | (simp <;> omega))) | (with_reducible refine Below.alloc ?_ ?_ _; rotate_left; (first | omega | (simp <;> omega)))))⟩
      case measure => simp [intOf]; omega
    · obtain rfl : k = n := by omega
      go_wp2
      go_ret
      exact ⟨_, rfl, hb⟩
end Go.Proofs.Ytohflngcgmcllaa
