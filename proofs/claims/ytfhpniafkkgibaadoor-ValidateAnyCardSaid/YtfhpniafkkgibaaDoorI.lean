/- Tasks as far as they are looked at; the reference's Reads. -/
import Derived.Test.YtfhpniafkkgibaaDoorH
namespace Go.Proofs.YtfhpniafkkgibaaDoor
open Go.RowKit

/-- A slice as it lies in a cell. -/
structure Sc where
  A : Option Addr
  n : Nat
  c : Nat
def Sc.v (s : Sc) : Value := .slice s.A s.n s.c
/-- A task, as far as it is looked at. -/
structure Ta where
  status : Int
  gs : Sc
  rd : Sc
  wt : Sc
  nw : Sc
  dl : Sc
  ac : Sc
  cells : List Value
  size : cells.length = 48
  one : cells.all (·.oneCell') = true
  c36 : cells[36]? = some gs.v
  c37 : cells[37]? = some rd.v
  c38 : cells[38]? = some wt.v
  c39 : cells[39]? = some nw.v
  c40 : cells[40]? = some dl.v
  c41 : cells[41]? = some ac.v
  c42 : cells[42]? = some (.int .i64 status)

def outR : Option Cl → Value
  | some x => .tuple #[.agg x.cells.toArray, .bool false]
  | none => .tuple #[.agg #[.int .i64 0, .int .i64 0, .bool false, .int .i64 0], .bool true]

set_option maxRecDepth 100000 in
set_option maxHeartbeats 2000000 in
theorem refreads_any (A : Option Addr) (n c : Nat) (l : List Ob) (t : Ta) (cs : List Cl) (w : World) (hs : Hp w w.heap.size A n l) (hn : n ≤ 9000000000000) (hc : Sl w w.heap.size 4 Cl.cells t.rd.A t.rd.n cs) (hm : t.rd.n ≤ 900000) :
    Calls Tryd.prog 7 #[.agg #[.slice A n c], .agg t.cells.toArray] w fun e w' => e = .returned (outR (wrongP (l.map Ob.po) cs)) ∧ Below w.heap.size w w' := by
  have HS := Lib.hid hs
  have HC := Lib.hid hc
  obtain ⟨W, hW⟩ : ∃ W, W = ((w.alloc (.cells #[.slice A n c] 24)).alloc (.cells t.cells.toArray 34)).alloc (.cells #[.int .i64 0, .int .i64 0, .bool false, .int .i64 0] 42) := ⟨_, rfl⟩
  have hWb : Below w.heap.size w W := by rw [hW]; exact (by repeat (first | (with_reducible exact (Below.refl _ _)) | (with_reducible refine Below.drew ?_) | (with_reducible refine below_drewN ?_ _) | (with_reducible refine Below.setCell ?_ ?_ _; rotate_left; (first | omega | (simp <;> omega))) | (with_reducible refine Below.alloc ?_ ?_ _; rotate_left; (first | omega | (simp <;> omega)))))
  have hWz : W.heap.size = w.heap.size + 3 := by rw [hW]; simp
  have q2 : W.cell? ⟨w.heap.size, 0, none⟩ = some (.slice A n c) := (by rw [hW, cell_old _ _ _ _ (by simp <;> omega), cell_old _ _ _ _ (by simp <;> omega), cell_new _ _ _ _ _ (by simp <;> omega)]; rfl)
  have q3 : W.cell? ⟨w.heap.size + 1, 37, none⟩ = some (.slice t.rd.A t.rd.n t.rd.c) := by rw [hW, cell_old _ _ _ _ (by simp), cell_new _ _ _ _ _ (by simp), List.getElem?_toArray, t.c37]; rfl
  go_enter Tryd.func7, Tryd.ntmps7
  have HQ := Lib.hid (show W.cell? ⟨w.heap.size + 2, 0, none⟩ = some (.int .i64 0) ∧ W.cell? ⟨w.heap.size + 2, 1, none⟩ = some (.int .i64 0) ∧ W.cell? ⟨w.heap.size + 2, 2, none⟩ = some (.bool false) ∧ W.cell? ⟨w.heap.size + 2, 3, none⟩ = some (.int .i64 0) ∧ ∀ j, W.frozen? ⟨w.heap.size + 2, j, none⟩ = false from ⟨(by rw [hW, cell_new _ _ _ _ _ (by simp <;> omega)]; rfl), (by rw [hW, cell_new _ _ _ _ _ (by simp <;> omega)]; rfl), (by rw [hW, cell_new _ _ _ _ _ (by simp <;> omega)]; rfl), (by rw [hW, cell_new _ _ _ _ _ (by simp <;> omega)]; rfl), fun j => (by rw [hW, frozen_new _ _ _ _ _ (by simp <;> omega)])⟩)
  have t37 : t.cells[37]? = some (.slice t.rd.A t.rd.n t.rd.c) := t.c37
  have HWB := Lib.hid hWb
  have HWZ := Lib.hid hWz
  have HCW := Lib.hid (HC.out.up hWb)
  have HSW := Lib.hid (HS.out.up hWb)
  clear hWb hWz q2 q3
  go_wp2_with fail
  rw [← hW]
  clear hW t37
  refine (wrong_any A n c l t.rd.A t.rd.n t.rd.c cs W HSW.out hn HCW.out hm).mono ?_
  rintro e w1 ⟨rfl, hb1⟩
  have hbw := HWB.out.trans (hb1.mono HWB.out.size)
  have hz := HWZ.out
  have hz1 := hb1.size
  have q40 := (belc hb1 (b := w.heap.size + 2) (o := 0) (by omega)).trans HQ.out.1
  have q41 := (belc hb1 (b := w.heap.size + 2) (o := 1) (by omega)).trans HQ.out.2.1
  have q42 := (belc hb1 (b := w.heap.size + 2) (o := 2) (by omega)).trans HQ.out.2.2.1
  have q43 := (belc hb1 (b := w.heap.size + 2) (o := 3) (by omega)).trans HQ.out.2.2.2.1
  have q4f := fun j => (belf hb1 (b := w.heap.size + 2) (o := j) (by omega)).trans (HQ.out.2.2.2.2 j)
  have hl4 : w.heap.size + 2 < w1.heap.size := by omega
  clear hb1 hz hz1
  cases hwr : wrongP (l.map Ob.po) cs with
  | none =>
    have HWR := Lib.hid hwr
    clear hwr
    unfold outC
    go_wp2
    refine bodyPost_ret (v := .tuple #[.agg #[.int .i64 0, .int .i64 0, .bool false, .int .i64 0], .bool true]) (by simp [results, Tryd.results7, go_sem, q40, q41, q42, q43, hl4, World.cell?_alloc_lt]) rfl ⟨by rw [HWR.out]; rfl, (by repeat (first | (with_reducible exact hbw) | (with_reducible refine Below.drew ?_) | (with_reducible refine below_drewN ?_ _) | (with_reducible refine Below.setCell ?_ ?_ _; rotate_left; (first | omega | (simp <;> omega))) | (with_reducible refine Below.alloc ?_ ?_ _; rotate_left; (first | omega | (simp <;> omega)))))⟩
  | some x =>
    have HWR := Lib.hid hwr
    clear hwr
    unfold outC Cl.cells
    go_wp2
    refine bodyPost_ret (v := .tuple #[.agg #[.int .i64 x.id, .int .i64 x.field, .bool x.ref, .int .i64 x.n], .bool false]) (by simp [results, Tryd.results7, go_sem, q40, q41, q42, q43, hl4, World.cell?_alloc_lt]) rfl ⟨by rw [HWR.out]; rfl, (by repeat (first | (with_reducible exact hbw) | (with_reducible refine Below.drew ?_) | (with_reducible refine below_drewN ?_ _) | (with_reducible refine Below.setCell ?_ ?_ _; rotate_left; (first | omega | (simp <;> omega))) | (with_reducible refine Below.alloc ?_ ?_ _; rotate_left; (first | omega | (simp <;> omega)))))⟩
end Go.Proofs.YtfhpniafkkgibaaDoor
