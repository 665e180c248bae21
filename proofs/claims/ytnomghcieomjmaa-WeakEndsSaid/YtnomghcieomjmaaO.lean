/- A thread's state that is written. -/
import Derived.Test.YtnomghcieomjmaaN
import Derived.Test.YtnomghcieomjmaaK
import Derived.Test.YtnomghcieomjmaaL
import Derived.Test.YtnomghcieomjmaaDelW
namespace Go.Proofs.Ytnomghcieomjmaa
open Go.RowKit

theorem TrAt.setD {w : World} {g o : Nat} {t : Tr} (h : TrAt w g o t) {i : Nat} (hi : i < 8) (v : Bool) : TrAt (w.setCell ⟨g, o + i, none⟩ (.bool v)) g o ⟨upd t.done i v, t.regs, t.A, t.n, t.c, t.q⟩ := fun j u hu => by
  by_cases hj : j = i
  · subst hj
    rw [World.cell?_setCell_same _ _ _ (h j _ (tr_at t hi))]
    have := tr_at ⟨upd t.done j v, t.regs, t.A, t.n, t.c, t.q⟩ hi
    rw [this] at hu
    rw [← hu]
    simp [upd]
  · rw [set_other _ _ _ _ (by intro e; injection e with e1 e2; omega)]
    refine h j u ?_
    have hj17 : j < 17 := (List.getElem?_eq_some_iff.1 hu).1
    clear hi
    match j, hj, hu with
    | 0, hj, hu => simpa [Tr.cells, upd, hj] using hu
    | 1, hj, hu => simpa [Tr.cells, upd, hj] using hu
    | 2, hj, hu => simpa [Tr.cells, upd, hj] using hu
    | 3, hj, hu => simpa [Tr.cells, upd, hj] using hu
    | 4, hj, hu => simpa [Tr.cells, upd, hj] using hu
    | 5, hj, hu => simpa [Tr.cells, upd, hj] using hu
    | 6, hj, hu => simpa [Tr.cells, upd, hj] using hu
    | 7, hj, hu => simpa [Tr.cells, upd, hj] using hu
    | 8, hj, hu => simpa [Tr.cells] using hu
    | 9, hj, hu => simpa [Tr.cells] using hu
    | 10, hj, hu => simpa [Tr.cells] using hu
    | 11, hj, hu => simpa [Tr.cells] using hu
    | 12, hj, hu => simpa [Tr.cells] using hu
    | 13, hj, hu => simpa [Tr.cells] using hu
    | 14, hj, hu => simpa [Tr.cells] using hu
    | 15, hj, hu => simpa [Tr.cells] using hu
    | 16, hj, hu => simpa [Tr.cells] using hu
    | j + 17, _, _ => exact absurd hj17 (by omega)
theorem TrAt.setR {w : World} {g o : Nat} {t : Tr} (h : TrAt w g o t) {r : Nat} (hr : r < 8) (v : Int) : TrAt (w.setCell ⟨g, o + (8 + r), none⟩ (.int .i64 v)) g o ⟨t.done, upd t.regs r v, t.A, t.n, t.c, t.q⟩ := fun j u hu => by
  by_cases hj : j = 8 + r
  · subst hj
    rw [World.cell?_setCell_same _ _ _ (h _ _ (tr_reg t hr))]
    have := tr_reg ⟨t.done, upd t.regs r v, t.A, t.n, t.c, t.q⟩ hr
    rw [this] at hu
    rw [← hu]
    simp [upd]
  · rw [set_other _ _ _ _ (by intro e; injection e with e1 e2; omega)]
    refine h j u ?_
    have hj17 : j < 17 := (List.getElem?_eq_some_iff.1 hu).1
    match j, hj, hu with
    | 0, hj, hu => simpa [Tr.cells] using hu
    | 1, hj, hu => simpa [Tr.cells] using hu
    | 2, hj, hu => simpa [Tr.cells] using hu
    | 3, hj, hu => simpa [Tr.cells] using hu
    | 4, hj, hu => simpa [Tr.cells] using hu
    | 5, hj, hu => simpa [Tr.cells] using hu
    | 6, hj, hu => simpa [Tr.cells] using hu
    | 7, hj, hu => simpa [Tr.cells] using hu
    | 8, hj, hu => simpa [Tr.cells, upd, show ¬ 0 = r from by omega] using hu
    | 9, hj, hu => simpa [Tr.cells, upd, show ¬ 1 = r from by omega] using hu
    | 10, hj, hu => simpa [Tr.cells, upd, show ¬ 2 = r from by omega] using hu
    | 11, hj, hu => simpa [Tr.cells, upd, show ¬ 3 = r from by omega] using hu
    | 12, hj, hu => simpa [Tr.cells, upd, show ¬ 4 = r from by omega] using hu
    | 13, hj, hu => simpa [Tr.cells, upd, show ¬ 5 = r from by omega] using hu
    | 14, hj, hu => simpa [Tr.cells, upd, show ¬ 6 = r from by omega] using hu
    | 15, hj, hu => simpa [Tr.cells, upd, show ¬ 7 = r from by omega] using hu
    | 16, hj, hu => simpa [Tr.cells] using hu
    | j + 17, _, _ => exact absurd hj17 (by omega)
/-- A cell of one thread's state, but not its queue, is written. -/
theorem OwnSt.set1 {w : World} {B g : Nat} {ts : List Tr} (h : OwnSt w B g ts) {k : Nat} {t : Tr} (ht : ts[k]? = some t) {d : Nat → Bool} {r : Nat → Int} {j : Nat} (hj : j < 17) {v : Value} (hn : TrAt (w.setCell ⟨g, k * 17 + j, none⟩ v) g (k * 17) ⟨d, r, t.A, t.n, t.c, t.q⟩) :
    OwnSt (w.setCell ⟨g, k * 17 + j, none⟩ v) B g (ts.set k ⟨d, r, t.A, t.n, t.c, t.q⟩) := by
  have key : ∀ (i : Nat) (x : Tr), (ts.set k ⟨d, r, t.A, t.n, t.c, t.q⟩)[i]? = some x → ∃ y, ts[i]? = some y ∧ x.A = y.A ∧ x.n = y.n ∧ x.c = y.c ∧ x.q = y.q := fun i x hx => by
    rw [List.getElem?_set] at hx
    split at hx
    · rename_i hki
      subst hki
      split at hx
      · injection hx with hx; subst hx; exact ⟨t, ht, rfl, rfl, rfl, rfl⟩
      · cases hx
    · exact ⟨x, hx, rfl, rfl, rfl, rfl⟩
  refine ⟨by simpa using h.lt, h.lo, fun i x hx => ?_, fun j => by simpa using h.fr j, fun x hx => ?_, fun x hx => ?_, fun i j ti tj b hij hti htj => ?_⟩
  · rw [List.getElem?_set] at hx
    split at hx
    · rename_i hki
      subst hki
      split at hx
      · injection hx with hx; subst hx; exact hn
      · cases hx
    · exact (h.at_ i x hx).setO (by omega) v
  · obtain ⟨i, hi⟩ := List.getElem?_of_mem hx
    obtain ⟨y, hy, e1, e2, e3, e4⟩ := key i x hi
    rw [e1, e2, e3, e4]
    exact own_set (h.own y (List.mem_of_getElem? hy)) (h.ne y (List.mem_of_getElem? hy)) v
  · obtain ⟨i, hi⟩ := List.getElem?_of_mem hx
    obtain ⟨y, hy, e1, e2, e3, e4⟩ := key i x hi
    rw [e1, e2, e3]
    exact h.ne y (List.mem_of_getElem? hy)
  · obtain ⟨y, hy, e1, e2, e3, e4⟩ := key i ti hti
    obtain ⟨z, hz, f1, f2, f3, f4⟩ := key j tj htj
    rw [e1, e2, e3, f1, f2, f3]
    exact h.apart i j y z b hij hy hz
/-- What lies lower is written. -/
theorem OwnSt.low {w : World} {B g : Nat} {ts : List Tr} (h : OwnSt w B g ts) {p : Addr} (hp : p.block < B) (v : Value) : OwnSt (w.setCell p v) B g ts where
  lt := by simpa using h.lt
  lo := h.lo
  at_ := fun k t ht j u hu => by
    rw [set_other _ _ _ _ (by intro e; have := congrArg Addr.block e; simp only at this; have := h.lo; omega)]
    exact h.at_ k t ht j u hu
  fr := fun j => by simpa using h.fr j
  own := fun t ht => own_set (h.own t ht) (fun e => by have := own_block_lt (h.own t ht) e; omega) v
  ne := h.ne
  apart := h.apart
theorem OwnSt.grownLow {w w' : World} {B g b : Nat} {ts : List Tr} (h : OwnSt w B g ts) (hg : w.grownBy w' (some b)) (hb : b < B) : OwnSt w' B g ts where
  lt := Nat.lt_of_lt_of_le h.lt hg.size
  lo := h.lo
  at_ := fun k t ht => (h.at_ k t ht).grown hg h.lt (by intro e; injection e with e; have := h.lo; omega)
  fr := fun j => ((gcell hg).2 g j h.lt (by intro e; injection e with e; have := h.lo; omega)).trans (h.fr j)
  own := fun t ht => (h.own t ht).kept hg (.inr (fun e => by have := own_block_lt (h.own t ht) e; omega))
  ne := h.ne
  apart := h.apart
/-- One thread's queue is another one. -/
theorem OwnSt.fin {w w' : World} {B g : Nat} {ts : List Tr} (h : OwnSt w B g ts) (hl : ∀ t ∈ ts, t.q.length = t.n) {k : Nat} {t : Tr} (ht : ts[k]? = some t) (hg : w.grownBy w' (Value.slice t.A t.n t.c).ownBlock) {A' : Option Addr} {n' c' : Nat} {q' : List Wt}
    (hq : Sl w' w'.heap.size 2 Wt.cells A' n' q') (hA : ∀ ad, A' = some ad → ad.block ≠ g) :
    Sts (w'.setCell ⟨g, k * 17 + 16, none⟩ (.slice A' n' c')) (w'.setCell ⟨g, k * 17 + 16, none⟩ (.slice A' n' c')).heap.size (some ⟨g, 0, none⟩) ts.length (ts.set k ⟨t.done, t.regs, A', n', c', q'⟩) := by
  have hgg : (Value.slice t.A t.n t.c).ownBlock ≠ some g := h.ne t (List.mem_of_getElem? ht)
  have hkl : k < ts.length := (List.getElem?_eq_some_iff.1 ht).1
  refine ⟨⟨by simp, fun _ => ⟨g, 0, rfl, by have := h.lt; have := hg.size; simp; omega, fun i x hx j u hu => ?_⟩⟩, fun x hx => ?_⟩
  · rw [Nat.zero_add]
    show (w'.setCell _ _).cell? ⟨g, i * 17 + j, none⟩ = some u
    rw [List.getElem?_set] at hx
    split at hx
    · rename_i hki
      subst hki
      injection hx with hx
      subst hx
      exact ((h.at_ _ t ht).grown hg h.lt hgg).setQ A' n' c' q' j u hu
    · exact ((h.at_ i x hx).grown hg h.lt hgg).setO (by omega) _ j u hu
  · obtain ⟨i, hi⟩ := List.getElem?_of_mem hx
    rw [List.getElem?_set] at hi
    split at hi
    · injection hi with hi
      subst hi
      have := hq.set (p := ⟨g, k * 17 + 16, none⟩) (fun ad e => hA ad e) (.slice A' n' c')
      simpa using this
    · rename_i hik
      have hm := List.mem_of_getElem? hi
      have := (Sl.of_own Wt.size (hl x hm) ((h.own x hm).kept hg (by
        cases hb : (Value.slice x.A x.n x.c).ownBlock with
        | none => exact .inl rfl
        | some b => exact .inr (fun e => h.apart i k x t b (fun e => hik e.symm) hi ht hb e.symm)))).set (p := ⟨g, k * 17 + 16, none⟩) (fun ad e => fun e2 => by
          have hne := h.ne x hm
          rw [e] at hne
          exact hne (congrArg some e2)) (.slice A' n' c')
      simpa using this
theorem OwnSt.lows {w : World} {B g : Nat} {ts : List Tr} (h : OwnSt w B g ts) {k : Nat} {t' : Tr} (hA : ∀ ad, t'.A = some ad → B ≤ ad.block) : ∀ t ∈ ts.set k t', ∀ ad, t.A = some ad → B ≤ ad.block := fun t ht ad e => by
  rcases List.mem_or_eq_of_mem_set ht with ht | rfl
  · have := h.own t ht
    rw [e] at this
    exact (own_block_lt this rfl).1
  · exact hA ad e
theorem Sts.grownLow {w w' : World} {g b n : Nat} {ts : List Tr} (h : Sts w w.heap.size (some ⟨g, 0, none⟩) n ts) (hg : w.grownBy w' (some b)) (hgb : g ≠ b) (hA : ∀ t ∈ ts, ∀ ad, t.A = some ad → ad.block ≠ b) : Sts w' w'.heap.size (some ⟨g, 0, none⟩) n ts :=
  ⟨(h.sl.grown (Nat.le_refl _) hg (fun _ ad e e2 => by injection e with e; subst e; injection e2 with e2; exact hgb e2.symm)).mono hg.size, fun t ht => ((h.q t ht).grown (Nat.le_refl _) hg (fun _ ad e e2 => by injection e2 with e2; exact hA t ht ad e e2.symm)).mono hg.size⟩
theorem OwnSt.pts {w : World} {B g : Nat} {ts : List Tr} (_h : OwnSt w B g ts) {pts : List Pt} (hp : ts.map Tr.pt = pts) {k : Nat} {p : Pt} (hk : pts[k]? = some p) : ∃ t, ts[k]? = some t ∧ t.pt = p := by
  rw [← hp, List.getElem?_map] at hk
  exact Option.map_eq_some_iff.1 hk
end Go.Proofs.Ytnomghcieomjmaa
