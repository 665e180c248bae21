/- Whether an object is among some. -/
import Derived.Test.YtfhpniafkkgibaaDoorJ
import Derived.Test.YtfhpniafkkgibaaDoorIdxO
namespace Go.Proofs.YtfhpniafkkgibaaDoor
open Go.RowKit

theorem has1_any (x : Ob) (p : Nat) (k : Int) (w : World) (hp : p < w.heap.size) (hk : w.cell? ⟨p, 0, none⟩ = some (.int .i64 k)) :
    Calls Tryd.prog 27 #[.agg #[.int .i64 x.id, .slice x.A x.n x.c], .pointer (some ⟨p, 0, none⟩)] w fun e w' => e = .returned (.bool (x.id == k)) ∧ Below w.heap.size w w' := by
  go_enter Tryd.func27, Tryd.ntmps27
  go_wp2
  go_ret
  exact ⟨rfl, (by repeat (first | (with_reducible exact (Below.refl _ _)) | (with_reducible refine Below.drew ?_) | (with_reducible refine below_drewN ?_ _) | (with_reducible refine Below.setCell ?_ ?_ _; rotate_left; (first | omega | (simp <;> omega))) | (with_reducible refine Below.alloc ?_ ?_ _; rotate_left; (first | omega | (simp <;> omega)))))⟩

theorem contains_any (A : Option Addr) (n c : Nat) (l : List Ob) (p : Nat) (k : Int) (w : World) (hs : Sl w w.heap.size 2 Ob.cells A n l) (hn : n ≤ 900000) (hp : p < w.heap.size) (hk : w.cell? ⟨p, 0, none⟩ = some (.int .i64 k)) :
    Calls Tryd.prog 26 #[.slice A n c, .func (.func 27) #[] #[.pointer (some ⟨p, 0, none⟩)]] w fun e w' => e = .returned (.bool (l.any (fun x => x.id == k))) ∧ Below w.heap.size w w' := by
  go_enter Tryd.func26, Tryd.ntmps26
  go_wp2_with fail
  refine (IdxHas.any A n c l (fun x => x.id == k) p w hs (by omega) (fun x _ w' hb' => has1_any x p k w' (by have := hb'.size; omega) ((belc hb' (by omega)).trans hk))).mono ?_
  rintro e w1 ⟨rfl, hb1⟩
  rcases IdxHas.idx_cases (fun x : Ob => x.id == k) l with ⟨h, hno⟩ | ⟨i, x, h, _, hx, hq, _⟩
  · have HA := Lib.hid (show l.any (fun x => x.id == k) = false from by
      rw [List.any_eq_false]
      intro y hy
      obtain ⟨j, hj⟩ := List.getElem?_of_mem hy
      simp [hno j y hj])
    rw [h]
    clear h hno
    go_wp2
    go_ret
    exact ⟨by rw [HA.out]; rfl, hb1⟩
  · have HA := Lib.hid (show l.any (fun x => x.id == k) = true from List.any_eq_true.2 ⟨x, List.mem_of_getElem? hx, hq⟩)
    rw [h]
    clear h hx hq
    go_wp2
    go_ret
    exact ⟨by rw [HA.out]; simp, hb1⟩
end Go.Proofs.YtfhpniafkkgibaaDoor
