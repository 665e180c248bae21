/- Heaps in memory; where an object is; what is read. -/
import Derived.Test.YtfhpniafkkgibaaDoorKit2
import Derived.Test.YtfhpniafkkgibaaDoorPlain
namespace Go.Proofs.YtfhpniafkkgibaaDoor
open Go.RowKit

/-- A heap below block B. -/
structure Hp (w : World) (B : Nat) (A : Option Addr) (n : Nat) (l : List Ob) : Prop where
  sl : Sl w B 2 Ob.cells A n l
  obs : ∀ o ∈ l, Sl w B 2 Val.cells o.A o.n o.s ∧ o.n ≤ 8796093021952
section
variable {w w' : World} {B B' n : Nat} {A : Option Addr} {l : List Ob}
theorem Hp.below (h : Hp w B A n l) (hb : Below B w w') : Hp w' B A n l := ⟨h.sl.below hb, fun o ho => ⟨(h.obs o ho).1.below hb, (h.obs o ho).2⟩⟩
theorem Hp.mono (h : Hp w B A n l) (hB : B ≤ B') : Hp w B' A n l := ⟨h.sl.mono hB, fun o ho => ⟨(h.obs o ho).1.mono hB, (h.obs o ho).2⟩⟩
theorem Hp.up (h : Hp w w.heap.size A n l) (hb : Below w.heap.size w w') : Hp w' w'.heap.size A n l := (h.below hb).mono hb.size
theorem Hp.nil : Hp w B A 0 [] := ⟨Sl.nil, fun o ho => by simp at ho⟩
end

set_option maxHeartbeats 400000 in
theorem index_any (A : Option Addr) (n c : Nat) (l : List Ob) (id : Int) (w : World) (hs : Sl w w.heap.size 2 Ob.cells A n l) (hn : n ≤ 9000000000000) :
    Calls Tryd.prog 35 #[.agg #[.slice A n c], .int .i64 id] w fun e w' => e = .returned (.int .i64 (idxI id (l.map Ob.po))) ∧ Below w.heap.size w w' := by
  have HL := Lib.hid hs.len
  go_enter Tryd.func35, Tryd.ntmps35
  go_wp2
  go_step3
  go_wp2
  go_step3
  go_wp2
  go_loopw [5, 11] (fun f i wr => ∃ k : Nat, k ≤ n ∧ f = .int .i64 (-1) ∧ i = .int .i64 k ∧ Hid (∀ (i : Nat) (x : Ob), i < k → l[i]? = some x → x.id ≠ id) ∧ Below w.heap.size w wr) (fun _ i _ => n - (intOf i).toNat)
  case atStart => exact ⟨0, Nat.zero_le _, rfl, rfl, Lib.hid (fun i x h => absurd h (by omega)), (by repeat (first | (with_reducible exact (Below.refl _ _)) | (with_reducible refine Below.drew ?_) | (with_reducible refine below_drewN ?_ _) | (with_reducible refine Below.setCell ?_ ?_ _; rotate_left; (first | omega | (simp <;> omega))) | (with_reducible refine Below.alloc ?_ ?_ _; rotate_left; (first | omega | (simp <;> omega)))))⟩
  case round =>
    obtain ⟨k, hk, rfl, rfl, hno, hb⟩ := hrel
    have hzz := hb.size
    by_cases hlt : k < n
    · obtain ⟨ab, ao, rfl, hlo, hat⟩ := hs.at_ (by omega)
      obtain ⟨x, hx⟩ : ∃ x, l[k]? = some x := ⟨_, List.getElem?_eq_getElem (by rw [HL.out]; exact hlt)⟩
      have c0 : wr.cell? ⟨ab, ao + k * 2, none⟩ = some (.int .i64 x.id) := (belc hb hlo).trans (hat k x hx 0 _ rfl)
      have c1 : wr.cell? ⟨ab, ao + k * 2 + 1, none⟩ = some (.slice x.A x.n x.c) := (belc hb hlo).trans (hat k x hx 1 _ rfl)
      have HX := Lib.hid hx
      clear hat hx
      by_cases he : x.id = id
      · have HE := Lib.hid (show idxI id (l.map Ob.po) = k from by
          rw [idxI, idx_some (po_at HX.out) he (fun j y hj hy => by obtain ⟨z, hz, rfl⟩ := po_at' hy; exact hno.out j z hj hz)])
        go_wp2
        rw [Exit.noGoto_ret]
        go_ret
        exact ⟨by rw [HE.out]; rfl, (by repeat (first | (with_reducible exact hb) | (with_reducible refine Below.drew ?_) | (with_reducible refine below_drewN ?_ _) | (with_reducible refine Below.setCell ?_ ?_ _; rotate_left; (first | omega | (simp <;> omega))) | (with_reducible refine Below.alloc ?_ ?_ _; rotate_left; (first | omega | (simp <;> omega)))))⟩
      · go_wp2
        go_roundw
        case rel =>
          refine ⟨k + 1, by omega, rfl, by go_num, Lib.hid (fun i y hi hy => ?_), (by repeat (first | (with_reducible exact hb) | (with_reducible refine Below.drew ?_) | (with_reducible refine below_drewN ?_ _) | (with_reducible refine Below.setCell ?_ ?_ _; rotate_left; (first | omega | (simp <;> omega))) | (with_reducible refine Below.alloc ?_ ?_ _; rotate_left; (first | omega | (simp <;> omega)))))⟩
          by_cases hik : i = k
          · subst hik; rw [HX.out] at hy; injection hy with hy; subst hy; exact he
          · exact hno.out i y (by omega) hy
        case measure => simp [intOf]; omega
    · obtain rfl : k = n := by omega
      have HE := Lib.hid (show idxI id (l.map Ob.po) = -1 from by
        rw [idxI, idx_none (fun j y hy => by
          obtain ⟨z, hz, rfl⟩ := po_at' hy
          exact hno.out j z (by have := (List.getElem?_eq_some_iff.1 hz).1; rw [HL.out] at this; exact this) hz)])
      go_wp2
      rw [Exit.noGoto_ret]
      go_ret
      exact ⟨by rw [HE.out]; rfl, hb⟩

set_option maxHeartbeats 400000 in
theorem refat_any (A : Option Addr) (n c : Nat) (l : List Ob) (id : Int) (w : World) (hs : Sl w w.heap.size 2 Ob.cells A n l) (hn : n ≤ 9000000000000) :
    Calls Tryd.prog 31 #[.agg #[.slice A n c], .int .i64 id] w fun e w' => e = .returned (.int .i64 (idxI id (l.map Ob.po))) ∧ Below w.heap.size w w' := by
  have HL := Lib.hid hs.len
  go_enter Tryd.func31, Tryd.ntmps31
  go_wp2_with fail
  go_loopw [10] (fun i wr => ∃ k : Nat, k ≤ n ∧ i = .int .i64 k ∧ Hid (∀ (i : Nat) (x : Ob), i < k → l[i]? = some x → x.id ≠ id) ∧ Below w.heap.size w wr) (fun i _ => n - (intOf i).toNat)
  case atStart => exact ⟨0, Nat.zero_le _, rfl, Lib.hid (fun i x h => absurd h (by omega)), (by repeat (first | (with_reducible exact (Below.refl _ _)) | (with_reducible refine Below.drew ?_) | (with_reducible refine below_drewN ?_ _) | (with_reducible refine Below.setCell ?_ ?_ _; rotate_left; (first | omega | (simp <;> omega))) | (with_reducible refine Below.alloc ?_ ?_ _; rotate_left; (first | omega | (simp <;> omega)))))⟩
  case round =>
    obtain ⟨k, hk, rfl, hno, hb⟩ := hrel
    have hzz := hb.size
    by_cases hlt : k < n
    · obtain ⟨ab, ao, rfl, hlo, hat⟩ := hs.at_ (by omega)
      obtain ⟨x, hx⟩ : ∃ x, l[k]? = some x := ⟨_, List.getElem?_eq_getElem (by rw [HL.out]; exact hlt)⟩
      have c0 : wr.cell? ⟨ab, ao + k * 2, none⟩ = some (.int .i64 x.id) := (belc hb hlo).trans (hat k x hx 0 _ rfl)
      have c1 : wr.cell? ⟨ab, ao + k * 2 + 1, none⟩ = some (.slice x.A x.n x.c) := (belc hb hlo).trans (hat k x hx 1 _ rfl)
      have HX := Lib.hid hx
      clear hat hx
      by_cases he : x.id = id
      · have HE := Lib.hid (show idxI id (l.map Ob.po) = k from by
          rw [idxI, idx_some (po_at HX.out) he (fun j y hj hy => by obtain ⟨z, hz, rfl⟩ := po_at' hy; exact hno.out j z hj hz)])
        go_wp2
        go_ret
        exact ⟨by rw [HE.out]; rfl, (by repeat (first | (with_reducible exact hb) | (with_reducible refine Below.drew ?_) | (with_reducible refine below_drewN ?_ _) | (with_reducible refine Below.setCell ?_ ?_ _; rotate_left; (first | omega | (simp <;> omega))) | (with_reducible refine Below.alloc ?_ ?_ _; rotate_left; (first | omega | (simp <;> omega)))))⟩
      · go_wp2
        go_roundw
        case rel =>
          refine ⟨k + 1, by omega, by go_num, Lib.hid (fun i y hi hy => ?_), (by repeat (first | (with_reducible exact hb) | (with_reducible refine Below.drew ?_) | (with_reducible refine below_drewN ?_ _) | (with_reducible refine Below.setCell ?_ ?_ _; rotate_left; (first | omega | (simp <;> omega))) | (with_reducible refine Below.alloc ?_ ?_ _; rotate_left; (first | omega | (simp <;> omega)))))⟩
          by_cases hik : i = k
          · subst hik; rw [HX.out] at hy; injection hy with hy; subst hy; exact he
          · exact hno.out i y (by omega) hy
        case measure => simp [intOf]; omega
    · obtain rfl : k = n := by omega
      have HE := Lib.hid (show idxI id (l.map Ob.po) = -1 from by
        rw [idxI, idx_none (fun j y hy => by
          obtain ⟨z, hz, rfl⟩ := po_at' hy
          exact hno.out j z (by have := (List.getElem?_eq_some_iff.1 hz).1; rw [HL.out] at this; exact this) hz)])
      go_wp2
      go_ret
      exact ⟨by rw [HE.out]; rfl, hb⟩
end Go.Proofs.YtfhpniafkkgibaaDoor
