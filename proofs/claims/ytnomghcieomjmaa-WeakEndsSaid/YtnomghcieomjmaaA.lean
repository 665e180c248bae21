/- The shapes of operations: a map that is made anew at each call. -/
import Derived.Test.YtnomghcieomjmaaKit2
import Derived.ChangeMaps4
import Derived.MapKept
namespace Go.Proofs.Ytnomghcieomjmaa
open Go.RowKit

def shp (a b c d : Bool) : Value := .agg #[.bool a, .bool b, .bool c, .bool d]
/-- The entries of the map. -/
def shapeL : List MapEntry := [⟨.int .i64 1, shp true true false false, 0⟩, ⟨.int .i64 2, shp true false false true, 1⟩, ⟨.int .i64 3, shp false false false false, 2⟩, ⟨.int .i64 4, shp true true true true, 3⟩]
theorem run_make {P : Program} (t : TypeId) (w : World) : (Instr.makeMap t none).run P w = .ok (.map (some w.heap.size)) (w.alloc (.map #[] 0)) := by
  rfl
def atShape (k : Int) : Option (Nat × Value) := if k = 1 then some (0, shp true true false false) else if k = 2 then some (1, shp true false false true) else if k = 3 then some (2, shp false false false false) else if k = 4 then some (3, shp true true true true) else none
theorem find_shape (k : Int) : Instr.findNow (.int .i64) (.int .i64 k) shapeL 0 = some (atShape k) := by
  have h : ∀ (a : Int), Instr.sameNow (.int .i64) (.int .i64 k) (.int .i64 a) = some (decide (k = a)) := fun a => by simp [Instr.sameNow]; rfl
  simp only [shapeL, Instr.findNow, h, atShape]
  by_cases h1 : k = 1
  · simp [h1]
  · by_cases h2 : k = 2
    · simp [h2]
    · by_cases h3 : k = 3
      · simp [h3]
      · by_cases h4 : k = 4
        · simp [h4]
        · simp [h1, h2, h3, h4]
theorem zero_shape (w : World) : (zeroValue 81).run Try.prog w = .ok (shp false false false false) w := by
  kernel_rfl
theorem look {w : World} {b cl : Nat} (hb : w.heap[b]? = some (.map shapeL.toArray cl)) (k : Int) :
    (Instr.lookup 82 (.map (some b)) (.int .i64 k) true).run Try.prog w = .ok (.tuple #[match atShape k with | some x => x.2 | none => shp false false false false, .bool (atShape k).isSome]) w := by
  have h1 := MapKept.run_findKey (w := w) Try.underlying3 (find_shape k)
  have h2 : (Instr.checkKey shapeL.isEmpty 10000 3 (.int .i64 k)).run Try.prog w = .ok () w := MapKept.run_checkKey (w := w) Try.underlying3 (k := .int .i64 k) (by rfl) shapeL.isEmpty 9999
  cases hk : atShape k with
  | none => rw [hk] at h1; simp [Instr.lookup, run_underlying Try.underlying82, MapKept.run_getObj_map hb, h1, h2, Result.andThen, shp]
  | some x => rw [hk] at h1; simp [Instr.lookup, run_underlying Try.underlying82, MapKept.run_getObj_map hb, h1, h2, Result.andThen]
/-- A store into the map that is being made. -/
theorem ins_shape {w : World} {b : Nat} {es : List MapEntry} {k : Int} (hb : w.heap[b]? = some (.map es.toArray es.length)) (hf : Instr.findNow (.int .i64) (.int .i64 k) es 0 = some none) (v : Value) :
    (Instr.mapUpdate 82 (.map (some b)) (.int .i64 k) v).run Try.prog w = .ok () { w with heap := w.heap.setIfInBounds b (.map (es ++ [(⟨.int .i64 k, v, es.length⟩ : MapEntry)]).toArray (es.length + 1)) } := by
  have h1 := MapKept.run_findKey (w := w) Try.underlying3 hf
  have h2 : (Instr.checkKey false 10000 3 (.int .i64 k)).run Try.prog w = .ok () w := MapKept.run_checkKey (w := w) Try.underlying3 (k := .int .i64 k) (by rfl) false 9999
  simp [Instr.mapUpdate, run_underlying Try.underlying82, MapKept.run_getObj_map hb, h1, h2, MapKept.run_setObj_map _ hb, Result.andThen]

set_option maxRecDepth 10000 in
set_option maxHeartbeats 1000000 in
theorem shapes_any (w : World) : Calls Try.prog 40 #[] w fun e w' => ∃ b, e = .returned (.map (some b)) ∧ w.heap.size ≤ b ∧ w'.heap[b]? = some (.map shapeL.toArray 4) ∧ Below w.heap.size w w' := by
  have hm : ∀ w, (Instr.makeMap 82 none).run Try.prog w = .ok (.map (some w.heap.size)) (w.alloc (.map #[] 0)) := run_make _
  obtain ⟨w1, hw1⟩ : ∃ w1, w1 = w.alloc (.map #[] 0) := ⟨_, rfl⟩
  have hm1 : (Instr.makeMap 82 none).run Try.prog w = .ok (.map (some w.heap.size)) w1 := by rw [hw1]; exact hm w
  clear hm
  have g1 : w1.heap[w.heap.size]? = some (.map (([] : List MapEntry)).toArray ([] : List MapEntry).length) := by rw [hw1]; exact heap_new _ _
  obtain ⟨b, hb⟩ : ∃ b, b = w.heap.size := ⟨_, rfl⟩
  rw [← hb] at g1 hm1
  have step : ∀ (w : World) (es : List MapEntry) (k : Int) (v : Value), w.heap[b]? = some (.map es.toArray es.length) → Instr.findNow (.int .i64) (.int .i64 k) es 0 = some none →
      ∃ w', (Instr.mapUpdate 82 (.map (some b)) (.int .i64 k) v).run Try.prog w = .ok () w' ∧ w'.heap[b]? = some (.map (es ++ [(⟨.int .i64 k, v, es.length⟩ : MapEntry)]).toArray (es ++ [(⟨.int .i64 k, v, es.length⟩ : MapEntry)]).length) ∧ w.grownBy w' (some b) := fun w es k v h1 h2 => by
    refine ⟨_, ins_shape h1 h2 v, ?_, ?_⟩
    · simp [(Array.getElem?_eq_some_iff.1 h1).1]
    · refine ⟨rfl, rfl, rfl, by simp, fun k hk hne => ?_⟩
      simp only [Array.getElem?_setIfInBounds]
      rw [if_neg (fun e => hne (by rw [e]))]
  obtain ⟨w2, i1, g2, r1⟩ := step w1 _ 1 (shp true true false false) g1 (by rfl)
  obtain ⟨w3, i2, g3, r2⟩ := step w2 _ 2 (shp true false false true) g2 (by rfl)
  obtain ⟨w4, i3, g4, r3⟩ := step w3 _ 3 (shp false false false false) g3 (by rfl)
  obtain ⟨w5, i4, g5, r4⟩ := step w4 _ 4 (shp true true true true) g4 (by rfl)
  have hB : Below w.heap.size w w5 := by
    have h1 : Below w.heap.size w w1 := by rw [hw1]; exact (Below.refl _ _).alloc (Nat.le_refl _) _
    have hle : ∀ k, some b = some k → w.heap.size ≤ k := fun k hk => by injection hk with hk; omega
    have z1 := h1.size
    have h2 := h1.grown r1 z1 hle
    have h3 := h2.grown r2 h2.size hle
    have h4 := h3.grown r3 h3.size hle
    exact h4.grown r4 h4.size hle
  have G5 := Lib.hid g5
  clear g1 g2 g3 g4 g5 r1 r2 r3 r4 step hw1
  unfold shp at i1 i2 i3 i4
  subst hb
  go_enter Try.func40, Try.ntmps40
  go_wp2
  go_ret
  exact ⟨_, rfl, Nat.le_refl _, G5.out, hB⟩
end Go.Proofs.Ytnomghcieomjmaa
