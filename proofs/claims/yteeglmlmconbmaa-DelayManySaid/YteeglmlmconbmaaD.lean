/- The reference's Train. -/
import Derived.Test.YteeglmlmconbmaaC
import Derived.Deep.RegionLawGrows
import Derived.Deep.RegionLaw
namespace Go.Proofs.Yteeglmlmconbmaa
open Go.RowKit

set_option maxHeartbeats 400000 in
theorem less_any (x : Pr) (a b : Int) (w : World) : Calls Try.prog 15 #[.agg #[.int .i64 x.a, .int .i64 x.b, .int .i64 x.cnt], .int .i64 a, .int .i64 b] w fun e w' => e = .returned (.bool (decide (Bef x a b))) ∧ Below w.heap.size w w' := by
  by_cases h1 : x.a < a
  · have HB := Lib.hid (show decide (Bef x a b) = true from decide_eq_true (.inl h1))
    have g1 : decide (x.a < a) = true := by simpa using h1
    go_enter Try.func15, Try.ntmps15
    go_wp2
    go_ret
    exact ⟨by rw [HB.out]; rfl, (Below.refl _ _).alloc (Nat.le_refl _) _⟩
  · have g1 : decide (x.a < a) = false := by simpa using h1
    by_cases h2 : x.a = a
    · have g2 : (x.a == a) = true := by simpa using h2
      by_cases h3 : x.b < b
      · have HB := Lib.hid (show decide (Bef x a b) = true from decide_eq_true (.inr ⟨h2, h3⟩))
        have g3 : decide (x.b < b) = true := by simpa using h3
        clear h2
        go_enter Try.func15, Try.ntmps15
        go_wp2
        go_ret
        exact ⟨by rw [HB.out]; rfl, (Below.refl _ _).alloc (Nat.le_refl _) _⟩
      · have HB := Lib.hid (show decide (Bef x a b) = false from decide_eq_false (by unfold Bef; omega))
        have g3 : decide (x.b < b) = false := by simpa using h3
        clear h2
        go_enter Try.func15, Try.ntmps15
        go_wp2
        go_ret
        exact ⟨by rw [HB.out]; rfl, (Below.refl _ _).alloc (Nat.le_refl _) _⟩
    · have g2 : (x.a == a) = false := by simpa using h2
      have HB := Lib.hid (show decide (Bef x a b) = false from decide_eq_false (by unfold Bef; omega))
      go_enter Try.func15, Try.ntmps15
      go_wp2
      go_ret
      exact ⟨by rw [HB.out]; rfl, (Below.refl _ _).alloc (Nat.le_refl _) _⟩

/-- What out holds: the first k pairs. -/
structure Out (w : World) (base p : Nat) (v : Value) (l : List Pr) : Prop where
  cell : w.cell? ⟨p, 0, none⟩ = some v
  fr : w.frozen? ⟨p, 0, none⟩ = false
  own : w.ownsRow base 28 3 v l.length (l.flatMap Pr.cells)
  lt : p < base
  le : base ≤ w.heap.size

theorem news_new (w : World) (a b c : Int) : ∀ ad, (some ⟨w.heap.size, 0, none⟩ : Option Addr) = some ad → ∀ (j : Nat) (u : Value), ([.int .i64 a, .int .i64 b, .int .i64 c] : List Value)[j]? = some u → ((w.alloc (.cells #[.int .i64 a, .int .i64 b, .int .i64 c] 28)).drew).cell? (ad.add j) = some u := by
  intro ad had j u hu
  injection had with had
  subst had
  rw [Addr.add_lit, Nat.zero_add]
  show (w.alloc _).cell? _ = _
  rw [cell_new _ _ _ _ _ rfl, List.getElem?_toArray]
  exact hu
/-- out = append(out, x). -/
theorem Out.next {w w1 : World} {base p : Nat} {v : Value} {l : List Pr} (h : Out w base p v l) (x : Pr) {A' : Option Addr} {c' : Nat}
    (ho : w1.ownsRow base 28 3 (.slice A' (l.length + 1) c') (l.length + 1) (l.flatMap Pr.cells ++ x.cells)) (hg : ((w.alloc (.cells #[.int .i64 x.a, .int .i64 x.b, .int .i64 x.cnt] 28)).drew).grownBy w1 v.ownBlock) :
    Out (w1.setCell ⟨p, 0, none⟩ (.slice A' (l.length + 1) c')) base p (.slice A' (l.length + 1) c') (l ++ [x]) ∧ w1.cell? ⟨p, 0, none⟩ = some v ∧ w1.frozen? ⟨p, 0, none⟩ = false ∧ Below base w w1 := by
  have hzA : ((w.alloc (.cells #[.int .i64 x.a, .int .i64 x.b, .int .i64 x.cnt] 28)).drew).heap.size = w.heap.size + 1 := by show (w.alloc _).heap.size = _; simp
  have hpl : p < w.heap.size := Nat.lt_of_lt_of_le h.lt h.le
  have hne : some p ≠ v.ownBlock := fun e => by have := h.own.lt p e.symm; have := h.lt; omega
  have c1 : w1.cell? ⟨p, 0, none⟩ = some v := ((gcell hg).1 p 0 (by rw [hzA]; omega) hne).trans ((cell_old w _ p 0 hpl).trans h.cell)
  have f1 : w1.frozen? ⟨p, 0, none⟩ = false := ((gcell hg).2 p 0 (by rw [hzA]; omega) hne).trans ((frozen_old w _ p 0 hpl).trans h.fr)
  have hz := hg.size
  rw [hzA] at hz
  refine ⟨⟨World.cell?_setCell_same _ _ _ c1, by rw [World.frozen?_setCell]; exact f1, ?_, h.lt, by have := h.le; simp; omega⟩, c1, f1, ?_⟩
  · have e1 : (l ++ [x]).length = l.length + 1 := by simp
    have e2 : (l ++ [x]).flatMap Pr.cells = l.flatMap Pr.cells ++ x.cells := by simp
    rw [e1, e2]
    exact own_setCell ho _ (fun e => by have := ho.lt p e; have := h.lt; omega)
  · exact (((Below.refl base w).alloc h.le _).drew).grown hg (by rw [hzA]; have := h.le; omega) (fun k hk => (h.own.lt k hk).1)
/-- A store elsewhere, a call. -/
theorem Out.below {w w' : World} {base p : Nat} {v : Value} {l : List Pr} (h : Out w base p v l) (hb : Below w.heap.size w w') : Out w' base p v l :=
  have hpl : p < w.heap.size := Nat.lt_of_lt_of_le h.lt h.le
  ⟨(belc hb hpl).trans h.cell, (belf hb hpl).trans h.fr, own_below h.own hb, h.lt, Nat.le_trans h.le hb.size⟩
/-- An append to out that is to be stored yet. -/
theorem Out.more {w W w1 : World} {base p : Nat} {v : Value} {l : List Pr} (h : Out w base p v l) (hW : Below w.heap.size w W) (hg : W.grownBy w1 v.ownBlock) :
    w1.cell? ⟨p, 0, none⟩ = some v ∧ w1.frozen? ⟨p, 0, none⟩ = false ∧ Below base w w1 := by
  have hpl : p < w.heap.size := Nat.lt_of_lt_of_le h.lt h.le
  have hz := hW.size
  have hne : some p ≠ v.ownBlock := fun e => by have := h.own.lt p e.symm; have := h.lt; omega
  exact ⟨((gcell hg).1 p 0 (by omega) hne).trans ((belc hW hpl).trans h.cell), ((gcell hg).2 p 0 (by omega) hne).trans ((belf hW hpl).trans h.fr),
    (hW.mono h.le).grown hg (by have := h.le; omega) (fun k hk => (h.own.lt k hk).1)⟩

end Go.Proofs.Yteeglmlmconbmaa
