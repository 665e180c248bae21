/- The law's sanity check. -/
import Derived.Test.YtfhpniafkkgibaaDoorP
namespace Go.Proofs.YtfhpniafkkgibaaDoor
open Go.RowKit

set_option maxRecDepth 100000 in
theorem wpList_store_tn {ops : Array Oper} {rest : List Oper} {op : Oper} {a : Act} {w : World} {Q : Exit → Act → World → Prop} (hgd : op.guard = none) (x y : Operand) (ho : op.op = .store 34 x y)
    {c : Array Value} (t : Ta) (hc : c.size = 48) (hx : a.eval x = .pointer (some ⟨w.heap.size, 0, none⟩)) (hy : a.eval y = .agg t.cells.toArray)
    (h : wpList Tryd.prog ops Q rest (a.put op.dst undef) (w.alloc (.cells t.cells.toArray 34))) : wpList Tryd.prog ops Q (op :: rest) a (w.alloc (.cells c 34)) :=
  wpList_plain hgd fun _ hK => by
    unfold Oper.wp execOp
    simp only [ho, hx, hy, Sem.run_bind, Result.andThen_ok, run_storeAt_new (P := Tryd.prog) w _ c t.cells.toArray (by rw [List.size_toArray, t.size]; exact ta_agg) (by rw [hc, List.size_toArray, t.size]) (by simpa using t.one)]
    exact hK _ _ h

theorem wpList_load_tg {ops : Array Oper} {rest : List Oper} {op : Oper} {a : Act} {w : World} {Q : Exit → Act → World → Prop} (x : Operand) (ho : op.op = .load 34 x)
    {b : Nat} {t : Ta} (hx : a.eval x = .pointer (some ⟨b, 0, none⟩)) (hc : TaAt w b t) (hw : Region.wanted op (yielded ops a.tmps) = true) (h : wpList Tryd.prog ops Q rest (a.put op.dst (.agg t.cells.toArray)) w) : wpList Tryd.prog ops Q (op :: rest) a w := by
  simp only [wpList, hw]
  exact .inl (wp_load_mid _ x ho b 0 hx t.cells _ (fun j v hv => by rw [Nat.zero_add]; exact hc j v hv) Tryd.underlying34 rfl (by rw [t.size]; exact ta_agg) h)
/-- A task with a status and reads, nothing else. -/
def mkTa (st : Int) (rd : Sc) : Ta where
  status := st
  gs := ⟨none, 0, 0⟩
  rd := rd
  wt := ⟨none, 0, 0⟩
  nw := ⟨none, 0, 0⟩
  dl := ⟨none, 0, 0⟩
  ac := ⟨none, 0, 0⟩
  cells := (zeroT.set 37 rd.v).set 42 (.int .i64 st)
  size := rfl
  one := rfl
  c36 := rfl
  c37 := rfl
  c38 := rfl
  c39 := rfl
  c40 := rfl
  c41 := rfl
  c42 := rfl

/-- The sanity check's world: a heap with one object, a task with one read. -/
structure SW (B C : Nat) (n : Int) (W : World) : Prop where
  lt : C + 1 < W.heap.size
  le : B + 2 < C
  v0 : W.cell? ⟨B, 0, none⟩ = some (.bool false)
  v1 : W.cell? ⟨B, 1, none⟩ = some (.int .i64 5)
  o0 : W.cell? ⟨B + 1, 0, none⟩ = some (.int .i64 7)
  o1 : W.cell? ⟨B + 1, 1, none⟩ = some (.slice (some ⟨B, 0, none⟩) 1 1)
  h : W.cell? ⟨B + 2, 0, none⟩ = some (.slice (some ⟨B + 1, 0, none⟩) 1 1)
  r0 : W.cell? ⟨C, 0, none⟩ = some (.int .i64 7)
  r1 : W.cell? ⟨C, 1, none⟩ = some (.int .i64 0)
  r2 : W.cell? ⟨C, 2, none⟩ = some (.bool false)
  r3 : W.cell? ⟨C, 3, none⟩ = some (.int .i64 n)
  rf : W.frozen? ⟨C, 3, none⟩ = false
  t : Bx W (C + 1) (mkTa 2 ⟨some ⟨C, 0, none⟩, 1, 1⟩).cells
theorem SW.below {B C : Nat} {n : Int} {W W' : World} (h : SW B C n W) (hb : Below W.heap.size W W') : SW B C n W' := by
  have h1 := h.lt
  have h2 := h.le
  have h3 := hb.size
  exact ⟨by omega, h2, (belc hb (by omega)).trans h.v0, (belc hb (by omega)).trans h.v1, (belc hb (by omega)).trans h.o0, (belc hb (by omega)).trans h.o1, (belc hb (by omega)).trans h.h, (belc hb (by omega)).trans h.r0, (belc hb (by omega)).trans h.r1, (belc hb (by omega)).trans h.r2, (belc hb (by omega)).trans h.r3, (belf hb (by omega)).trans h.rf, h.t.below hb (by omega)⟩
theorem SW.set {B C : Nat} {n : Int} {W : World} (h : SW B C n W) (m : Int) : SW B C m (W.setCell ⟨C, 3, none⟩ (.int .i64 m)) := by
  have h1 := h.lt
  have h2 := h.le
  have far : ∀ b o : Nat, b < C → (W.setCell ⟨C, 3, none⟩ (.int .i64 m)).cell? ⟨b, o, none⟩ = W.cell? ⟨b, o, none⟩ := fun b o hb => World.cell?_setCell_far _ _ _ _ (by show C ≠ b; omega)
  exact ⟨by simpa using h1, h2, (far _ _ (by omega)).trans h.v0, (far _ _ (by omega)).trans h.v1, (far _ _ (by omega)).trans h.o0, (far _ _ (by omega)).trans h.o1, (far _ _ (by omega)).trans h.h, (set_other _ _ _ _ (by simp)).trans h.r0, (set_other _ _ _ _ (by simp)).trans h.r1, (set_other _ _ _ _ (by simp)).trans h.r2, World.cell?_setCell_same _ _ _ h.r3, by rw [World.frozen?_setCell]; exact h.rf, h.t.far (by show C ≠ C + 1; omega) _⟩
theorem SW.hp {B C : Nat} {n : Int} {W : World} (h : SW B C n W) : Hp W W.heap.size (some ⟨B + 1, 0, none⟩) 1 [⟨7, some ⟨B, 0, none⟩, 1, 1, [⟨false, 5⟩]⟩] := by
  have h1 := h.lt
  have h2 := h.le
  refine ⟨⟨rfl, fun _ => ⟨_, _, rfl, by omega, ?_⟩⟩, fun o ho => ?_⟩
  · intro i x hx j u hu
    match i, hx with
    | 0, hx =>
      simp at hx; subst hx
      match j, hu with
      | 0, hu => simp [Ob.cells] at hu; subst hu; exact h.o0
      | 1, hu => simp [Ob.cells] at hu; subst hu; exact h.o1
  · simp at ho; subst ho
    refine ⟨⟨rfl, fun _ => ⟨_, _, rfl, by omega, ?_⟩⟩, by show 1 ≤ _; omega⟩
    intro i x hx j u hu
    match i, hx with
    | 0, hx =>
      simp at hx; subst hx
      match j, hu with
      | 0, hu => simp [Val.cells] at hu; subst hu; exact h.v0
      | 1, hu => simp [Val.cells] at hu; subst hu; exact h.v1
theorem SW.rd {B C : Nat} {n : Int} {W : World} (h : SW B C n W) : Sl W W.heap.size 4 Cl.cells (some ⟨C, 0, none⟩) 1 [⟨7, 0, false, n⟩] := by
  have h1 := h.lt
  refine ⟨rfl, fun _ => ⟨_, _, rfl, by omega, ?_⟩⟩
  intro i x hx j u hu
  match i, hx with
  | 0, hx =>
    simp at hx; subst hx
    match j, hu with
    | 0, hu => simp [Cl.cells] at hu; subst hu; exact h.r0
    | 1, hu => simp [Cl.cells] at hu; subst hu; exact h.r1
    | 2, hu => simp [Cl.cells] at hu; subst hu; exact h.r2
    | 3, hu => simp [Cl.cells] at hu; subst hu; exact h.r3
theorem mkTa_lit (st : Int) (A : Option Addr) (n c : Nat) : (mkTa st ⟨A, n, c⟩).cells.toArray = #[.int .i64 0, .int .i64 0, .bool false, .int .i64 0, .bool false, .int .i64 0, .bool false, .int .i64 0, .bool false, .int .i64 0, .bool false, .int .i64 0, .bool false, .int .i64 0, .bool false, .int .i64 0, .bool false, .int .i64 0, .bool false, .int .i64 0, .bool false, .int .i64 0, .bool false, .int .i64 0, .bool false, .int .i64 0, .bool false, .int .i64 0, .bool false, .int .i64 0, .bool false, .int .i64 0, .bool false, .int .i64 0, .bool false, .int .i64 0, .slice none 0 0, .slice A n c, .slice none 0 0, .slice none 0 0, .slice none 0 0, .slice none 0 0, .int .i64 st, .int .i64 0, .bool false, .bool false, .int .i64 0, .int .i64 0] := rfl
set_option maxRecDepth 100000 in
set_option maxHeartbeats 8000000 in
theorem sane_any (w : World) (hg : ErrT w) : Calls Tryd.prog 4 #[] w fun e w' => e = .returned (.bool true) ∧ Below w.heap.size w w' := by
  have HG := Lib.hid hg
  have hw0 := hg.lt
  clear hg
  go_enter Tryd.func4, Tryd.ntmps4
  obtain ⟨V, hV⟩ : ∃ V, V = ((w.alloc (.cells #[.bool false, .int .i64 5] 26)).alloc (.cells #[.int .i64 7, .slice (some ⟨w.heap.size, 0, none⟩) 1 1] 39)).alloc (.cells #[.slice (some ⟨w.heap.size + 1, 0, none⟩) 1 1] 24) := ⟨_, rfl⟩
  go_upto_region 2 with fail
  rw [← hV]
  have hbV : Below w.heap.size w V := by rw [hV]; exact (by repeat (first | (with_reducible exact (Below.refl _ _)) | (with_reducible refine Below.drew ?_) | (with_reducible refine below_drewN ?_ _) | (with_reducible refine Below.setCell ?_ ?_ _; rotate_left; (first | omega | (simp <;> omega))) | (with_reducible refine Below.alloc ?_ ?_ _; rotate_left; (first | omega | (simp <;> omega)))))
  have hzV : V.heap.size = w.heap.size + 3 := by rw [hV]; simp
  have v0 : V.cell? ⟨w.heap.size, 0, none⟩ = some (.bool false) := (by rw [hV, cell_old _ _ _ _ (by simp <;> omega), cell_old _ _ _ _ (by simp <;> omega), cell_new _ _ _ _ _ (by simp <;> omega)]; rfl)
  have v1 : V.cell? ⟨w.heap.size, 1, none⟩ = some (.int .i64 5) := (by rw [hV, cell_old _ _ _ _ (by simp <;> omega), cell_old _ _ _ _ (by simp <;> omega), cell_new _ _ _ _ _ (by simp <;> omega)]; rfl)
  have o0 : V.cell? ⟨w.heap.size + 1, 0, none⟩ = some (.int .i64 7) := (by rw [hV, cell_old _ _ _ _ (by simp <;> omega), cell_new _ _ _ _ _ (by simp <;> omega)]; rfl)
  have o1 : V.cell? ⟨w.heap.size + 1, 1, none⟩ = some (.slice (some ⟨w.heap.size, 0, none⟩) 1 1) := (by rw [hV, cell_old _ _ _ _ (by simp <;> omega), cell_new _ _ _ _ _ (by simp <;> omega)]; rfl)
  have h0 : V.cell? ⟨w.heap.size + 2, 0, none⟩ = some (.slice (some ⟨w.heap.size + 1, 0, none⟩) 1 1) := (by rw [hV, cell_new _ _ _ _ _ (by simp <;> omega)]; rfl)
  have HZV := Lib.hid hzV
  clear hV hzV
  go_upto_region 3 with (with_reducible refine wpList_store_tn rfl (.tmp 2) (.tmp 14) rfl (mkTa 2 ⟨some ⟨V.heap.size, 0, none⟩, 1, 1⟩) (by simp) (by simp [Act.eval, Act.put]) (by rw [mkTa_lit]; simp [Act.eval, Act.put]) ?_)
  obtain ⟨U, hU⟩ : ∃ U, U = (V.alloc (.cells #[.int .i64 7, .int .i64 0, .bool false, .int .i64 3] 42)).alloc (.cells (mkTa 2 ⟨some ⟨V.heap.size, 0, none⟩, 1, 1⟩).cells.toArray 34) := ⟨_, rfl⟩
  rw [← hU]
  have hbU : Below V.heap.size V U := by rw [hU]; exact (by repeat (first | (with_reducible exact (Below.refl _ _)) | (with_reducible refine Below.drew ?_) | (with_reducible refine below_drewN ?_ _) | (with_reducible refine Below.setCell ?_ ?_ _; rotate_left; (first | omega | (simp <;> omega))) | (with_reducible refine Below.alloc ?_ ?_ _; rotate_left; (first | omega | (simp <;> omega)))))
  have hzV := HZV.out
  have HSW := Lib.hid (show SW w.heap.size V.heap.size 3 U from by
    refine ⟨by rw [hU]; simp, by omega, (belc hbU (by omega)).trans v0, (belc hbU (by omega)).trans v1, (belc hbU (by omega)).trans o0, (belc hbU (by omega)).trans o1, (belc hbU (by omega)).trans h0, (by rw [hU, cell_old _ _ _ _ (by simp <;> omega), cell_new _ _ _ _ _ (by simp <;> omega)]; rfl), (by rw [hU, cell_old _ _ _ _ (by simp <;> omega), cell_new _ _ _ _ _ (by simp <;> omega)]; rfl), (by rw [hU, cell_old _ _ _ _ (by simp <;> omega), cell_new _ _ _ _ _ (by simp <;> omega)]; rfl), (by rw [hU, cell_old _ _ _ _ (by simp <;> omega), cell_new _ _ _ _ _ (by simp <;> omega)]; rfl), (by rw [hU, frozen_old _ _ _ _ (by simp <;> omega), frozen_new _ _ _ _ _ (by simp <;> omega)]), (mkTa 2 ⟨some ⟨V.heap.size, 0, none⟩, 1, 1⟩).size, fun j v hv => by rw [hU, cell_new _ _ _ _ _ (by simp), List.getElem?_toArray, hv], fun j => (by rw [hU, frozen_new _ _ _ _ _ (by simp <;> omega)])⟩)
  have HBU := Lib.hid (hbV.trans (hbU.mono hbV.size))
  have HG1 := Lib.hid (HG.out.below HBU.out hw0)
  have h0 := HSW.out.h
  clear hU hbU hbV v0 v1 o0 o1 hzV
  go_wp2_with (with_reducible refine wpList_load_ta rfl (.tmp 2) rfl (by simp [Act.eval, Act.put]) HSW.out.t.ta ?_)
  refine (Reads_any _ 1 1 _ (mkTa 2 ⟨some ⟨V.heap.size, 0, none⟩, 1, 1⟩) _ U HG1.out HSW.out.hp (by omega) HSW.out.rd (by show 1 ≤ _; omega)).mono ?_
  rw [show wrongP (List.map Ob.po [⟨7, some ⟨w.heap.size, 0, none⟩, 1, 1, [⟨false, 5⟩]⟩]) [⟨7, 0, false, 3⟩] = some ⟨7, 0, false, 3⟩ from rfl]
  rintro e w1 ⟨rfl, hb1⟩
  have HS1 := Lib.hid ((HSW.out.below hb1).below (Below.alloc (Below.refl _ _) (Nat.le_refl _) (.cells #[.int .i64 7, .int .i64 0, .bool false, .int .i64 3] 42)))
  obtain ⟨X, hX⟩ : ∃ X, X = w1.alloc (.cells #[.int .i64 7, .int .i64 0, .bool false, .int .i64 3] 42) := ⟨_, rfl⟩
  have hbX : Below w1.heap.size w1 X := by rw [hX]; exact (Below.refl _ _).alloc (Nat.le_refl _) _
  have k0 : X.cell? ⟨w1.heap.size, 0, none⟩ = some (.int .i64 7) := (by rw [hX, cell_new _ _ _ _ _ (by simp <;> omega)]; rfl)
  rw [← hX] at HS1
  have HBX := Lib.hid (HBU.out.trans ((hb1.trans (hbX.mono hb1.size)).mono HBU.out.size))
  have hlX : w1.heap.size < X.heap.size := by rw [hX]; simp
  have hlX2 : U.heap.size ≤ w1.heap.size := hb1.size
  have HG2 := Lib.hid (HG.out.below HBX.out hw0)
  unfold outR Cl.cells
  clear hb1 hbX h0
  have h0 := HS1.out.h
  go_upto_region 4 with fail
  rw [← hX]
  clear hX
  go_wp2_with (with_reducible refine wpList_load_ta rfl (.tmp 2) rfl (by simp [Act.eval, Act.put]) HS1.out.t.ta ?_)
  refine (check_any _ 1 1 _ (mkTa 2 ⟨some ⟨V.heap.size, 0, none⟩, 1, 1⟩) _ [] [] [] X HG2.out HS1.out.hp (by omega) HS1.out.rd (by show 1 ≤ _; omega) Sl.nil (by show 0 ≤ _; omega) Sl.nil (by show 0 ≤ _; omega) Sl.nil (by show 0 ≤ _; omega)).mono ?_
  rw [show codeE (allP (List.map Ob.po [⟨7, some ⟨w.heap.size, 0, none⟩, 1, 1, [⟨false, 5⟩]⟩]) (mkTa 2 ⟨some ⟨V.heap.size, 0, none⟩, 1, 1⟩).status [⟨7, 0, false, 3⟩] [] [] []) = 14 from rfl]
  rintro e w2 ⟨rfl, hb2⟩
  have HS2 := Lib.hid (HS1.out.below hb2)
  have HB2 := Lib.hid (HBX.out.trans (hb2.mono HBX.out.size))
  have k0 := (belc hb2 hlX).trans k0
  have q37 : w2.cell? ⟨V.heap.size + 1, 37, none⟩ = some (.slice (some ⟨V.heap.size, 0, none⟩) 1 1) := HS2.out.t.2.1 37 _ rfl
  have r3 := HS2.out.r3
  have rf := HS2.out.rf
  have hlw2 : w1.heap.size < w2.heap.size := by have := hb2.size; omega
  clear hb2 h0
  go_upto_region 6 with fail
  obtain ⟨Y, hY⟩ : ∃ Y, Y = w2.setCell ⟨V.heap.size, 3, none⟩ (.int .i64 5) := ⟨_, rfl⟩
  rw [← hY]
  have HS3 := Lib.hid (show SW w.heap.size V.heap.size 5 Y from by rw [hY]; exact HS2.out.set 5)
  have HB3 := Lib.hid (show Below w.heap.size w Y from by rw [hY]; exact HB2.out.setCell (by show _ ≤ V.heap.size; have := HZV.out; omega) _)
  have HG3 := Lib.hid (HG.out.below HB3.out hw0)
  have k0 : Y.cell? ⟨w1.heap.size, 0, none⟩ = some (.int .i64 7) := by rw [hY, World.cell?_setCell_far _ _ _ _ (by show V.heap.size ≠ w1.heap.size; have := HSW.out.lt; omega)]; exact k0
  have h0 := HS3.out.h
  clear hY q37 r3 rf
  go_wp2_with (with_reducible refine wpList_load_tg (.tmp 2) rfl (by simp [Act.eval, Act.put]) HS3.out.t.ta (by simp [Region.wanted, yielded]) ?_)
  refine (check_any _ 1 1 _ (mkTa 2 ⟨some ⟨V.heap.size, 0, none⟩, 1, 1⟩) _ [] [] [] Y HG3.out HS3.out.hp (by omega) HS3.out.rd (by show 1 ≤ _; omega) Sl.nil (by show 0 ≤ _; omega) Sl.nil (by show 0 ≤ _; omega) Sl.nil (by show 0 ≤ _; omega)).mono ?_
  rw [show codeE (allP (List.map Ob.po [⟨7, some ⟨w.heap.size, 0, none⟩, 1, 1, [⟨false, 5⟩]⟩]) (mkTa 2 ⟨some ⟨V.heap.size, 0, none⟩, 1, 1⟩).status [⟨7, 0, false, 5⟩] [] [] []) = 0 from rfl]
  rintro e w4 ⟨rfl, hb4⟩
  have HS4 := Lib.hid (HS3.out.below hb4)
  have HB4 := Lib.hid (HB3.out.trans (hb4.mono HB3.out.size))
  have HG4 := Lib.hid (HG.out.below HB4.out hw0)
  have h0 := HS4.out.h
  clear hb4 k0
  go_wp2_with fail
  have hz := mkTa_lit 0 none 0 0
  rw [← hz]
  clear hz
  refine (check_any _ 1 1 _ (mkTa 0 ⟨none, 0, 0⟩) [] [] [] [] w4 HG4.out HS4.out.hp (by omega) Sl.nil (by show 0 ≤ _; omega) Sl.nil (by show 0 ≤ _; omega) Sl.nil (by show 0 ≤ _; omega) Sl.nil (by show 0 ≤ _; omega)).mono ?_
  rw [show codeE (allP (List.map Ob.po [⟨7, some ⟨w.heap.size, 0, none⟩, 1, 1, [⟨false, 5⟩]⟩]) (mkTa 0 ⟨none, 0, 0⟩).status [] [] [] []) = 7 from rfl]
  rintro e w5 ⟨rfl, hb5⟩
  have HB5 := Lib.hid (HB4.out.trans (hb5.mono HB4.out.size))
  clear hb5 h0
  go_wp2
  go_ret
  exact ⟨by simp, HB5.out⟩
end Go.Proofs.YtfhpniafkkgibaaDoor
