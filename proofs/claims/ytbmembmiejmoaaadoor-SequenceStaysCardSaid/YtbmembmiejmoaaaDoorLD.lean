/- What the laid variables give, and the elements of the arguments. -/
import Derived.Test.YtbmembmiejmoaaaDoorN
import Derived.Test.YtbmembmiejmoaaaDoorLift
import Derived.Test.YtbmembmiejmoaaaDoorTie
import Derived.ProofKit
import Derived.LaidMore
import Derived.OpenShut
import Derived.Stop.Joined
import Derived.SevenTiedAt
import Derived.LaidLaws
import Derived.LaidHandle
import Derived.JoinedOf
import Derived.Deep.Slices
import Derived.Deep.Fields
namespace Go.Proofs.YtbmembmiejmoaaaDoor
open Go.ChangeShapes Go.WideShapes Go.ChangeAt Go.RowKit Go.Deep

def laidL : List (String × DataW Unit) := [("speculate/value.units", Rows.laid_speculate_value_units), ("speculate/code.table", Rows.laid_speculate_code_table)]
theorem gTable : Tryd.prog.globalNamed "speculate/code.table" = some 0 := by kernel_rfl
theorem gUnits : Tryd.prog.globalNamed "speculate/value.units" = some 2 := by kernel_rfl
theorem tTable : (Tryd.prog.globals[0]?).map (·.type) = some 83 := by kernel_rfl
theorem cTable : Tryd.prog.cellsOf 82 = 4 := by kernel_rfl
theorem door_met (os : Os) (args : Array Value) : laidMetH Tryd.prog laidL ((World.doorLaid Tryd.prog 147 os).forCall (fun _ _ => 0) ⟨#[], args, []⟩).memory :=
  laidMetH_of_parts3 (fuel := 8) (laidMet_of_run' 8 (by kernel_rfl) (by kernel_rfl)) (by kernel_rfl) (by kernel_rfl)

set_option maxRecDepth 100000 in
theorem four_fields {H : Type} {enc : TypeId × Value → H} {W : World} {sp : Nat → Bool} {held : Bool} {fuel : Nat} {cs : List Value} {y : DataW H × List MemPlace} {a b c d : Int} (hl : cs.length = 4) (h : DataW.trod enc Tryd.prog W 0 sp held fuel 82 cs = some y)
    (hy : y.1 = .agg [.lit (.int .i64 a), .lit (.int .i64 b), .lit (.int .i64 c), .lit (.int .i64 d)]) : cs = [.int .i64 a, .int .i64 b, .int .i64 c, .int .i64 d] := by
  obtain ⟨ys, n', hn', rfl, hlen, hyl, hf⟩ := DataW.trod_struct Tryd.underlying82 h
  match cs, hl with
  | [x0, x1, x2, x3], _ =>
    match ys, hyl with
    | [y0, y1, y2, y3], _ =>
      simp only [List.map_cons, List.map_nil, DataW.agg.injEq, List.cons.injEq] at hy
      obtain ⟨h0, h1, h2, h3, _⟩ := hy
      obtain ⟨n0, e0, f0, _⟩ := DataW.trod_int Tryd.underlying3 (show DataW.trod enc Tryd.prog W 0 sp held n' 3 [x0] = some y0 from hf 0 _ rfl)
      obtain ⟨n1, e1, f1, _⟩ := DataW.trod_int Tryd.underlying3 (show DataW.trod enc Tryd.prog W 0 sp held n' 3 [x1] = some y1 from hf 1 _ rfl)
      obtain ⟨n2, e2, f2, _⟩ := DataW.trod_int Tryd.underlying3 (show DataW.trod enc Tryd.prog W 0 sp held n' 3 [x2] = some y2 from hf 2 _ rfl)
      obtain ⟨n3, e3, f3, _⟩ := DataW.trod_int Tryd.underlying3 (show DataW.trod enc Tryd.prog W 0 sp held n' 3 [x3] = some y3 from hf 3 _ rfl)
      simp at e0 e1 e2 e3
      subst e0 e1 e2 e3 f0 f1 f2 f3
      simp at h0 h1 h2 h3
      subst h0 h1 h2 h3
      rfl

set_option maxRecDepth 100000 in
theorem tab_of_laid {W : World} (h : laidMetH Tryd.prog laidL W) : Tab W := by
  rw [MakeChecks.laidMetH_plain _ _ _ (by kernel_rfl)] at h
  obtain ⟨ps, ⟨g0, t0, cs0, f0, p0, q0, hg0, ht0, hv0, hd0, ⟨g1, t1, cs1, f1, p1, q1, hg1, ht1, hv1, hd1, _, _⟩, _⟩, _, _⟩ := h
  obtain rfl := Option.some.inj (gTable.symm.trans hg1)
  obtain rfl := Option.some.inj (tTable.symm.trans ht1)
  obtain ⟨xs, m1, rfl, hx1, hlen, hn3, hel⟩ := DataW.trod_array Tryd.underlying83 hd1
  have hlen' : cs1.toList.length = 88 := hlen.trans (by kernel_rfl)
  rw [cTable] at hel
  simp only [Prod.mk.injEq] at hx1
  obtain ⟨hx1, _⟩ := hx1
  have hxs : ∀ (i : Nat) (hi : i < 22) (d : DataW Unit), (match Rows.laid_speculate_code_table (H := Unit) with | .agg l => l[i]? | _ => none) = some d → ∃ y, xs[i]? = some y ∧ y.1 = d := fun i hi d hd => by
    rw [hx1] at hd
    simp only [List.getElem?_map, Option.map_eq_some_iff] at hd
    exact hd
  have get : ∀ (i : Nat) (a b c d : Int), i < 22 → (match Rows.laid_speculate_code_table (H := Unit) with | .agg l => l[i]? | _ => none) = some (.agg [.lit (.int .i64 a), .lit (.int .i64 b), .lit (.int .i64 c), .lit (.int .i64 d)]) →
      W.cell? ⟨0, i * 4, none⟩ = some (.int .i64 a) ∧ W.cell? ⟨0, i * 4 + 1, none⟩ = some (.int .i64 b) ∧ W.cell? ⟨0, i * 4 + 2, none⟩ = some (.int .i64 c) ∧ W.cell? ⟨0, i * 4 + 3, none⟩ = some (.int .i64 d) := fun i a b c d hi hd => by
    obtain ⟨y, hy, hyd⟩ := hxs i hi _ hd
    have h4 := four_fields (cs := (cs1.toList.drop (i * 4)).take 4) (by rw [List.length_take, List.length_drop, hlen']; omega) ((hel i hi).trans hy) hyd
    have at_ : ∀ j, j < 4 → W.cell? ⟨0, i * 4 + j, none⟩ = ([.int .i64 a, .int .i64 b, .int .i64 c, .int .i64 d] : List Value)[j]? := fun j hj => by
      rw [World.var?_cell hg1 hv1, ← h4, List.getElem?_take, if_pos hj, List.getElem?_drop, Array.getElem?_toList]
    exact ⟨at_ 0 (by omega), at_ 1 (by omega), at_ 2 (by omega), at_ 3 (by omega)⟩
  obtain ⟨a0, a1, a2, a3⟩ := get 21 0 0 0 13 (by omega) rfl
  obtain ⟨b0, b1, b2, b3⟩ := get 1 1 0 0 2 (by omega) rfl
  obtain ⟨c0, c1, c2, c3⟩ := get 14 1 0 0 0 (by omega) rfl
  exact ⟨World.block_lt_of_cell? W _ a0, a0, a1, a2, a3, b0, b1, b2, b3, c0, c1, c2, c3⟩

section
variable {H : Type} {enc : TypeId × Value → H} {W : World}
set_option maxRecDepth 100000 in
theorem el_task {sp : Nat → Bool} : ∀ n cs y, cs.length = 48 → DataW.trod enc Tryd.prog W 0 sp true n 47 cs = some y → ∃ x : Tk, cs = x.cells ∧ True := by
  intro n cs y hl h
  obtain ⟨ys, n', hn', rfl, hlen, hyl, hf⟩ := DataW.trod_struct Tryd.underlying47 h
  have one : ∀ (j o : Nat) (f : Field), (match Tryd.prog.underlying 47 with | some (.struct fs) => fs[j]? | _ => none) = some f → f.offset = o → o < 48 → f.type = 3 → Tryd.prog.cellsOf f.type = 1 → ∃ z : Int, cs[o]? = some (.int .i64 z) := fun j o f hj ho hlt ht hc => by
    rw [Tryd.underlying47] at hj
    have h1 := hf j f hj
    rw [hc, ho, ht] at h1
    have hjs := (Array.getElem?_eq_some_iff.1 hj).1
    have e : (cs.drop o).take 1 = [cs[o]'(by omega)] := by
      rw [List.drop_eq_getElem_cons (by omega)]
      rfl
    rw [e, List.getElem?_eq_getElem (by omega)] at h1
    obtain ⟨z, e0, _⟩ := DataW.trod_int Tryd.underlying3 h1
    simp at e0
    exact ⟨z, by rw [List.getElem?_eq_getElem (by omega), e0]⟩
  obtain ⟨a, ha⟩ := one 0 0 _ (by rw [Tryd.underlying47]; rfl) rfl (by omega) rfl (by kernel_rfl)
  obtain ⟨b, hb⟩ := one 10 42 _ (by rw [Tryd.underlying47]; rfl) rfl (by omega) rfl (by kernel_rfl)
  obtain ⟨c, hc⟩ := one 11 43 _ (by rw [Tryd.underlying47]; rfl) rfl (by omega) rfl (by kernel_rfl)
  exact ⟨⟨a, b, c, cs, hl, ha, hb, hc⟩, rfl, trivial⟩
end
end Go.Proofs.YtbmembmiejmoaaaDoor
