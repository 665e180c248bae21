/- Copies of objects and of heaps. -/
import Derived.Test.YtfhpniafkkgibaaDoorA
import Derived.Test.YtfhpniafkkgibaaDoorCloneVR
import Derived.Deep.RegionHeld3
namespace Go.Proofs.YtfhpniafkkgibaaDoor
open Go.RowKit

/-- What a call leaves that gives an object of its own. -/
def GivesO (x : PO) (w : World) (e : Ending) (w' : World) : Prop := ∃ (A : Option Addr) (n c : Nat), e = .returned (.agg #[.int .i64 x.id, .slice A n c]) ∧ Hid (w'.ownsRow w.heap.size 26 2 (.slice A n c) n (x.s.flatMap Val.cells)) ∧ n = x.s.length ∧ Below w.heap.size w w'

set_option maxHeartbeats 1000000 in
theorem copied_any (x : Ob) (w : World) (hx : Sl w w.heap.size 2 Val.cells x.A x.n x.s) (hn : x.n ≤ 8796093021952) :
    Calls Tryd.prog 37 #[.agg #[.int .i64 x.id, .slice x.A x.n x.c]] w (GivesO x.po w) := by
  obtain ⟨id, A, n, c, s⟩ := x
  simp only at hx hn ⊢
  obtain ⟨w2, hw2⟩ : ∃ w2, w2 = (w.alloc (.cells #[.int .i64 id, .slice A n c] 39)).alloc (.cells #[.int .i64 0, .slice none 0 0] 39) := ⟨_, rfl⟩
  have hb2 : Below w.heap.size w w2 := by rw [hw2]; exact (by repeat (first | (with_reducible exact (Below.refl _ _)) | (with_reducible refine Below.drew ?_) | (with_reducible refine below_drewN ?_ _) | (with_reducible refine Below.setCell ?_ ?_ _; rotate_left; (first | omega | (simp <;> omega))) | (with_reducible refine Below.alloc ?_ ?_ _; rotate_left; (first | omega | (simp <;> omega)))))
  have hz2 : w2.heap.size = w.heap.size + 2 := by rw [hw2]; simp
  have c0 : w2.cell? ⟨w.heap.size, 0, none⟩ = some (.int .i64 id) := by rw [hw2, cell_old _ _ _ _ (by simp), cell_new _ _ _ _ _ rfl]; rfl
  have c1 : w2.cell? ⟨w.heap.size, 1, none⟩ = some (.slice A n c) := by rw [hw2, cell_old _ _ _ _ (by simp), cell_new _ _ _ _ _ rfl]; rfl
  have d0 : w2.cell? ⟨w.heap.size + 1, 0, none⟩ = some (.int .i64 0) := by rw [hw2, cell_new _ _ _ _ _ (by simp)]; rfl
  have d1 : w2.cell? ⟨w.heap.size + 1, 1, none⟩ = some (.slice none 0 0) := by rw [hw2, cell_new _ _ _ _ _ (by simp)]; rfl
  have f0 : ∀ j, w2.frozen? ⟨w.heap.size + 1, j, none⟩ = false := fun j => by rw [hw2, frozen_new _ _ _ _ _ (by simp)]
  have HX2 := Lib.hid (hx.up hb2)
  have hlt : w.heap.size < w2.heap.size := by omega
  have hlt1 : w.heap.size + 1 < w2.heap.size := by omega
  go_enter Tryd.func37, Tryd.ntmps37
  go_wp2_with fail
  rw [← hw2]
  have HW := Lib.hid hw2
  clear hw2
  have HXD := Lib.hid (HX2.out.below (Below.drew (Below.refl _ _)) : Sl w2.drew w2.drew.heap.size 2 Val.cells A n s)
  have HL := Lib.hid hx.len
  go_region_held3 (fun w' => w'.cell? ⟨w.heap.size, 0, none⟩ = some (.int .i64 id) ∧ w'.cell? ⟨w.heap.size, 1, none⟩ = some (.slice A n c))
    (first | exact ⟨c0, c1⟩ | exact ⟨p0, p1⟩ | exact ⟨by rw [set_other _ _ _ _ (by simp), set_other _ _ _ _ (by simp)]; exact p0, by rw [set_other _ _ _ _ (by simp), set_other _ _ _ _ (by simp)]; exact p1⟩)
    (first
      | (go_at_call 38; refine (CloneVal.recs A n c s w2.drew HXD.out (by omega)).mono ?_; rintro e w3 ⟨A3, c3, rfl, hown3, hs3, hb3, hg3⟩; have hb3 : Below w2.heap.size w2 w3 := (Below.drew (Below.refl _ _)).trans hb3; have p0 := (belc hb3 hlt).trans c0; have p1 := (belc hb3 hlt).trans c1; have q0 := (belc hb3 hlt1).trans d0; have q1 := (belc hb3 hlt1).trans d1; have g0 := (belf hb3 hlt1).trans (f0 0); have g1 := (belf hb3 hlt1).trans (f0 1); have H3 := Lib.hid hown3; clear hown3 hs3 hg3))
  all_goals
    go_wp2
    refine bodyPost_ret (v := .agg #[.int .i64 id, .slice A3 n c3]) (by simp [results, Tryd.results37, go_sem, q0, q1]) rfl ?_
    have hbl : ∀ p : Addr, p.block = w.heap.size + 1 → (Value.slice A3 n c3).ownBlock ≠ some p.block := fun p hp h => by
      have := (own_block_lt H3.out h).1
      have hz : w2.drew.heap.size = w2.heap.size := rfl
      omega
    refine ⟨A3, n, c3, rfl, Lib.hid (own_mono (own_setCell (own_setCell H3.out _ (hbl _ rfl)) _ (hbl _ rfl)) (by show _ ≤ w2.heap.size; omega)), HL.out.symm, ?_⟩
    have hb : Below w.heap.size w w3 := hb2.trans (hb3.mono hb2.size)
    exact (hb.setCell (by simp) _).setCell (by simp) _
end Go.Proofs.YtfhpniafkkgibaaDoor
