/- Operations that are formed. -/
import Derived.Test.YtnomghcieomjmaaB
namespace Go.Proofs.Ytnomghcieomjmaa
open Go.RowKit

structure POp where
  kind : Int
  word : Int
  n : Int
  m : Int
  reg : Int
  deriving DecidableEq
def POp.cells (o : POp) : List Value := [.int .i64 o.kind, .int .i64 o.word, .int .i64 o.n, .int .i64 o.m, .int .i64 o.reg]
def shW (k : Int) : Bool := decide (k = 1 ∨ k = 2 ∨ k = 4)
def shN (k : Int) : Bool := decide (k = 1 ∨ k = 4)
def shM (k : Int) : Bool := decide (k = 4)
def shR (k : Int) : Bool := decide (k = 2 ∨ k = 4)
def shOk (k : Int) : Bool := decide (1 ≤ k ∧ k ≤ 4)
theorem look_shape (k : Int) : (match atShape k with | some x => x.2 | none => shp false false false false) = .agg #[.bool (shW k), .bool (shN k), .bool (shM k), .bool (shR k)] ∧ (atShape k).isSome = shOk k := by
  unfold atShape shW shN shM shR shOk
  by_cases h1 : k = 1
  · subst h1; exact ⟨rfl, rfl⟩
  · by_cases h2 : k = 2
    · subst h2; exact ⟨rfl, rfl⟩
    · by_cases h3 : k = 3
      · subst h3; exact ⟨rfl, rfl⟩
      · by_cases h4 : k = 4
        · subst h4; exact ⟨rfl, rfl⟩
        · have h5 : ¬ (1 ≤ k ∧ k ≤ 4) := by omega
          simp [h1, h2, h3, h4, h5, shp]
theorem look2 {w : World} {b cl : Nat} (hb : w.heap[b]? = some (.map shapeL.toArray cl)) (k : Int) :
    (Instr.lookup 82 (.map (some b)) (.int .i64 k) true).run Try.prog w = .ok (.tuple #[.agg #[.bool (shW k), .bool (shN k), .bool (shM k), .bool (shR k)], .bool (shOk k)]) w :=
  (look hb k).trans (by rw [(look_shape k).2]; exact congrArg (fun v => Result.ok (Value.tuple #[v, .bool (shOk k)]) w) (look_shape k).1)
/-- Whether an operation is formed. -/
def formedB (o : POp) : Bool := shOk o.kind && fitsB o.word 3 (shW o.kind) && fitsB o.n 9 (shN o.kind) && fitsB o.m 9 (shM o.kind) && fitsB o.reg 7 (shR o.kind)

/-- The cells of a shape. -/
def ShAt (w1 : World) (k : Int) (s : Value) (wx : World) : Prop := ∃ g : Nat, s = .pointer (some ⟨g, 0, none⟩) ∧ g < wx.heap.size ∧ wx.cell? ⟨g, 0, none⟩ = some (.bool (shW k)) ∧ wx.cell? ⟨g, 1, none⟩ = some (.bool (shN k)) ∧ wx.cell? ⟨g, 2, none⟩ = some (.bool (shM k)) ∧ wx.cell? ⟨g, 3, none⟩ = some (.bool (shR k)) ∧ Below w1.heap.size w1 wx

theorem sh_before {w1 Y : World} {k : Int} {u0 u1 u2 u3 : Value} (hb : Below w1.heap.size w1 Y) (y0 : Y.cell? ⟨w1.heap.size, 0, none⟩ = some u0) (y1 : Y.cell? ⟨w1.heap.size, 1, none⟩ = some u1) (y2 : Y.cell? ⟨w1.heap.size, 2, none⟩ = some u2) (y3 : Y.cell? ⟨w1.heap.size, 3, none⟩ = some u3) :
    ShAt w1 k (.pointer (some ⟨w1.heap.size, 0, none⟩)) ((((Y.setCell ⟨w1.heap.size, 0, none⟩ (.bool (shW k))).setCell ⟨w1.heap.size, 1, none⟩ (.bool (shN k))).setCell ⟨w1.heap.size, 2, none⟩ (.bool (shM k))).setCell ⟨w1.heap.size, 3, none⟩ (.bool (shR k))) := by
  have hl := World.block_lt_of_cell? Y _ y0
  refine ⟨_, rfl, by simp; exact hl, ?_, ?_, ?_, ?_, (((hb.setCell (Nat.le_refl _) _).setCell (Nat.le_refl _) _).setCell (Nat.le_refl _) _).setCell (Nat.le_refl _) _⟩
  · rw [set_other _ _ _ _ (by simp), set_other _ _ _ _ (by simp), set_other _ _ _ _ (by simp)]; exact World.cell?_setCell_same _ _ _ y0
  · rw [set_other _ _ _ _ (by simp), set_other _ _ _ _ (by simp)]; exact World.cell?_setCell_same _ _ _ (by rw [set_other _ _ _ _ (by simp)]; exact y1)
  · rw [set_other _ _ _ _ (by simp)]; exact World.cell?_setCell_same _ _ _ (by rw [set_other _ _ _ _ (by simp), set_other _ _ _ _ (by simp)]; exact y2)
  · exact World.cell?_setCell_same _ _ _ (by rw [set_other _ _ _ _ (by simp), set_other _ _ _ _ (by simp), set_other _ _ _ _ (by simp)]; exact y3)

set_option maxHeartbeats 4000000 in
theorem formed_any (o : POp) (w : World) : Calls Try.prog 39 #[.agg #[.int .i64 o.kind, .int .i64 o.word, .int .i64 o.n, .int .i64 o.m, .int .i64 o.reg]] w fun e w' => e = .returned (.bool (formedB o)) ∧ Below w.heap.size w w' := by
  obtain ⟨w1, hw1⟩ : ∃ w1, w1 = w.alloc (.cells #[.int .i64 o.kind, .int .i64 o.word, .int .i64 o.n, .int .i64 o.m, .int .i64 o.reg] 51) := ⟨_, rfl⟩
  have hb1 : Below w.heap.size w w1 := by rw [hw1]; exact (by repeat (first | (with_reducible exact (Below.refl _ _)) | (with_reducible refine Below.drew ?_) | (with_reducible refine below_drewN ?_ _) | (with_reducible refine Below.setCell ?_ ?_ _; rotate_left; (first | omega | (simp <;> omega))) | (with_reducible refine Below.alloc ?_ ?_ _; rotate_left; (first | omega | (simp <;> omega)))))
  have hz1 : w.heap.size + 1 ≤ w1.heap.size := by rw [hw1]; simp
  have a0 : w1.cell? ⟨w.heap.size, 0, none⟩ = some (.int .i64 o.kind) := by rw [hw1, cell_new _ _ _ _ _ rfl]; rfl
  have a1 : w1.cell? ⟨w.heap.size, 1, none⟩ = some (.int .i64 o.word) := by rw [hw1, cell_new _ _ _ _ _ rfl]; rfl
  have a2 : w1.cell? ⟨w.heap.size, 2, none⟩ = some (.int .i64 o.n) := by rw [hw1, cell_new _ _ _ _ _ rfl]; rfl
  have a3 : w1.cell? ⟨w.heap.size, 3, none⟩ = some (.int .i64 o.m) := by rw [hw1, cell_new _ _ _ _ _ rfl]; rfl
  have a4 : w1.cell? ⟨w.heap.size, 4, none⟩ = some (.int .i64 o.reg) := by rw [hw1, cell_new _ _ _ _ _ rfl]; rfl
  go_enter Try.func39, Try.ntmps39
  go_wp2_with fail
  rw [← hw1]
  have HW1 := Lib.hid hw1
  clear hw1
  go_cut [3, 4] (fun s3 s4 wx => s4 = .bool (shOk o.kind) ∧ ShAt w1 o.kind s3 wx)
  case first =>
    have KT := Lib.hid (show ∀ w', Below w1.heap.size w1 w' → (fun w' : World => w'.cell? ⟨w.heap.size, 0, none⟩ = some (.int .i64 o.kind)) w' from fun w' hb => (belc hb (by omega)).trans a0)
    go_region_held3 (fun w' => w'.cell? ⟨w.heap.size, 0, none⟩ = some (.int .i64 o.kind))
      (first
        | (refine KT.out _ ?_; (repeat (first | (with_reducible exact (Below.refl _ _)) | (with_reducible refine Below.drew ?_) | (with_reducible refine Below.alloc ?_ ?_ _; rotate_left; (first | omega | (simp <;> omega))))); done)
        | (refine KT.out _ ?_; (repeat (first | (with_reducible exact hYU) | (with_reducible refine Below.drew ?_) | (with_reducible refine Below.setCell ?_ ?_ _; rotate_left; (first | omega | (simp <;> omega))) | (with_reducible refine Below.alloc ?_ ?_ _; rotate_left; (first | omega | (simp <;> omega))))); done))
      (first
        | (go_at_call 40; refine (shapes_any _).mono ?_; rintro e Y ⟨b, rfl, hb0, hbm, hbY⟩; have hYU : Below w1.heap.size w1 Y := Below.trans (by repeat (first | (with_reducible exact (Below.refl _ _)) | (with_reducible refine Below.drew ?_) | (with_reducible refine below_drewN ?_ _) | (with_reducible refine Below.setCell ?_ ?_ _; rotate_left; (first | omega | (simp <;> omega))) | (with_reducible refine Below.alloc ?_ ?_ _; rotate_left; (first | omega | (simp <;> omega))))) (hbY.mono (by first | exact Nat.le_refl _ | (show _ ≤ (w1.alloc _).heap.size; simp))); have hzY := hYU.size; have hlk := look2 hbm o.kind; have hlk2 := look2 (w := Y.alloc (.cells #[.bool false, .bool false, .bool false, .bool false] 81)) (b := b) (by rw [← hbm]; exact (Below.alloc (Below.refl _ _) (Nat.le_refl _) _).block b (Array.getElem?_eq_some_iff.1 hbm).1) o.kind; (try (have y0 : Y.cell? ⟨w1.heap.size, 0, none⟩ = some (.bool false) := (belc hbY (by show _ < (w1.alloc _).heap.size; simp)).trans (by show (w1.alloc _).cell? _ = _; rw [cell_new _ _ _ _ _ rfl]; rfl))); (try (have z0 : Y.frozen? ⟨w1.heap.size, 0, none⟩ = false := (belf hbY (by show _ < (w1.alloc _).heap.size; simp)).trans (by show (w1.alloc _).frozen? _ = _; rw [frozen_new _ _ _ _ _ rfl]))); (try (have y1 : Y.cell? ⟨w1.heap.size, 1, none⟩ = some (.bool false) := (belc hbY (by show _ < (w1.alloc _).heap.size; simp)).trans (by show (w1.alloc _).cell? _ = _; rw [cell_new _ _ _ _ _ rfl]; rfl))); (try (have z1 : Y.frozen? ⟨w1.heap.size, 1, none⟩ = false := (belf hbY (by show _ < (w1.alloc _).heap.size; simp)).trans (by show (w1.alloc _).frozen? _ = _; rw [frozen_new _ _ _ _ _ rfl]))); (try (have y2 : Y.cell? ⟨w1.heap.size, 2, none⟩ = some (.bool false) := (belc hbY (by show _ < (w1.alloc _).heap.size; simp)).trans (by show (w1.alloc _).cell? _ = _; rw [cell_new _ _ _ _ _ rfl]; rfl))); (try (have z2 : Y.frozen? ⟨w1.heap.size, 2, none⟩ = false := (belf hbY (by show _ < (w1.alloc _).heap.size; simp)).trans (by show (w1.alloc _).frozen? _ = _; rw [frozen_new _ _ _ _ _ rfl]))); (try (have y3 : Y.cell? ⟨w1.heap.size, 3, none⟩ = some (.bool false) := (belc hbY (by show _ < (w1.alloc _).heap.size; simp)).trans (by show (w1.alloc _).cell? _ = _; rw [cell_new _ _ _ _ _ rfl]; rfl))); (try (have z3 : Y.frozen? ⟨w1.heap.size, 3, none⟩ = false := (belf hbY (by show _ < (w1.alloc _).heap.size; simp)).trans (by show (w1.alloc _).frozen? _ = _; rw [frozen_new _ _ _ _ _ rfl])))))
    all_goals
      go_wp2
      go_meet
      first
        | exact ⟨rfl, _, rfl, by simp, by rw [cell_new _ _ _ _ _ rfl]; rfl, by rw [cell_new _ _ _ _ _ rfl]; rfl, by rw [cell_new _ _ _ _ _ rfl]; rfl, by rw [cell_new _ _ _ _ _ rfl]; rfl, hYU.alloc hzY _⟩
        | exact ⟨rfl, sh_before hYU y0 y1 y2 y3⟩
  case rest =>
    rename World => wx
    obtain ⟨rfl, g, rfl, hg, g0, g1, g2, g3, hbx⟩ := hcut
    have hzx := hbx.size
    have bwx : Below w.heap.size w wx := hb1.trans (hbx.mono hb1.size)
    have KS := Lib.hid (show ∀ w', Below wx.heap.size wx w' → w'.cell? ⟨w.heap.size, 1, none⟩ = some (.int .i64 o.word) ∧ w'.cell? ⟨w.heap.size, 2, none⟩ = some (.int .i64 o.n) ∧ w'.cell? ⟨w.heap.size, 3, none⟩ = some (.int .i64 o.m) ∧ w'.cell? ⟨w.heap.size, 4, none⟩ = some (.int .i64 o.reg) ∧ w'.cell? ⟨g, 0, none⟩ = some (.bool (shW o.kind)) ∧ w'.cell? ⟨g, 1, none⟩ = some (.bool (shN o.kind)) ∧ w'.cell? ⟨g, 2, none⟩ = some (.bool (shM o.kind)) ∧ w'.cell? ⟨g, 3, none⟩ = some (.bool (shR o.kind)) from fun w' hb =>
      ⟨(belc (hbx.trans (hb.mono hzx)) (by omega)).trans a1, (belc (hbx.trans (hb.mono hzx)) (by omega)).trans a2, (belc (hbx.trans (hb.mono hzx)) (by omega)).trans a3, (belc (hbx.trans (hb.mono hzx)) (by omega)).trans a4, (belc hb hg).trans g0, (belc hb hg).trans g1, (belc hb hg).trans g2, (belc hb hg).trans g3⟩)
    clear a0 a1 a2 a3 a4 g0 g1 g2 g3
    obtain ⟨B0, hB0⟩ : ∃ B, B = shOk o.kind := ⟨_, rfl⟩
    obtain ⟨B1, hB1⟩ : ∃ B, B = fitsB o.word 3 (shW o.kind) := ⟨_, rfl⟩
    obtain ⟨B2, hB2⟩ : ∃ B, B = fitsB o.n 9 (shN o.kind) := ⟨_, rfl⟩
    obtain ⟨B3, hB3⟩ : ∃ B, B = fitsB o.m 9 (shM o.kind) := ⟨_, rfl⟩
    obtain ⟨B4, hB4⟩ : ∃ B, B = fitsB o.reg 7 (shR o.kind) := ⟨_, rfl⟩
    have HF := Lib.hid (show formedB o = (B0 && B1 && B2 && B3 && B4) from by rw [hB0, hB1, hB2, hB3, hB4]; rfl)
    rw [← hB0]
    have H1 := Lib.hid hB1
    have H2 := Lib.hid hB2
    have H3 := Lib.hid hB3
    have H4 := Lib.hid hB4
    clear hB0 hB1 hB2 hB3 hB4
    cases B0 with
    | false =>
      go_wp2
      go_ret
      exact ⟨by rw [HF.out]; rfl, bwx⟩
    | true =>
      obtain ⟨c1, c2, c3, c4, d0, d1, d2, d3⟩ := KS.out wx (Below.refl _ _)
      go_wp2_with fail
      refine (fits_any o.word 3 (shW o.kind) wx).mono ?_
      rintro e x1 ⟨rfl, hx1⟩
      rw [← H1.out]
      have bx1 : Below wx.heap.size wx x1 := hx1
      clear c1 c2 c3 c4 d0 d1 d2 d3
      obtain ⟨c1, c2, c3, c4, d0, d1, d2, d3⟩ := KS.out x1 bx1
      cases B1 with
      | false =>
        go_wp2
        go_ret
        exact ⟨by rw [HF.out]; rfl, bwx.trans (bx1.mono bwx.size)⟩
      | true =>
        go_wp2_with fail
        refine (fits_any o.n 9 (shN o.kind) x1).mono ?_
        rintro e x2 ⟨rfl, hx2⟩
        rw [← H2.out]
        have bx2 : Below wx.heap.size wx x2 := bx1.trans (hx2.mono bx1.size)
        clear c1 c2 c3 c4 d0 d1 d2 d3
        obtain ⟨c1, c2, c3, c4, d0, d1, d2, d3⟩ := KS.out x2 bx2
        cases B2 with
        | false =>
          go_wp2
          go_ret
          exact ⟨by rw [HF.out]; rfl, bwx.trans (bx2.mono bwx.size)⟩
        | true =>
          go_wp2_with fail
          refine (fits_any o.m 9 (shM o.kind) x2).mono ?_
          rintro e x3 ⟨rfl, hx3⟩
          rw [← H3.out]
          have bx3 : Below wx.heap.size wx x3 := bx2.trans (hx3.mono bx2.size)
          clear c1 c2 c3 c4 d0 d1 d2 d3
          obtain ⟨c1, c2, c3, c4, d0, d1, d2, d3⟩ := KS.out x3 bx3
          cases B3 with
          | false =>
            go_wp2
            go_ret
            exact ⟨by rw [HF.out]; rfl, bwx.trans (bx3.mono bwx.size)⟩
          | true =>
            go_wp2_with fail
            refine (fits_any o.reg 7 (shR o.kind) x3).mono ?_
            rintro e x4 ⟨rfl, hx4⟩
            rw [← H4.out]
            have bx4 : Below wx.heap.size wx x4 := bx3.trans (hx4.mono bx3.size)
            go_wp2
            go_ret
            exact ⟨by rw [HF.out]; simp, bwx.trans (bx4.mono bwx.size)⟩
end Go.Proofs.Ytnomghcieomjmaa
