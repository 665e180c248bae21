/- Two heaps put side by side: what their cells hold, whatever the order. -/
import Derived.Test.YtohflngcgmcllaaJ
import Derived.Test.YtohflngcgmcllaaH
namespace Go.Proofs.Ytohflngcgmcllaa
open Go.RowKit

/-- The two cells that what was put came to. -/
def Two (U : World) (L : List PO) (s28 s29 : Value) (wx : World) : Prop := ∃ (bp bq : Nat) (Ap : Option Addr) (np cp : Nat) (lp : List Ob) (Aq : Option Addr) (nq cq : Nat) (lq : List Ob),
  s28 = .pointer (some ⟨bp, 0, none⟩) ∧ s29 = .pointer (some ⟨bq, 0, none⟩) ∧ wx.cell? ⟨bp, 0, none⟩ = some (.slice Ap np cp) ∧ wx.cell? ⟨bq, 0, none⟩ = some (.slice Aq nq cq) ∧ Hid (np = L.length) ∧ Hid (nq = L.length) ∧
  Hid (Hp wx wx.heap.size Ap np lp) ∧ Hid (Hp wx wx.heap.size Aq nq lq) ∧ Hid (lp.map Ob.po = L) ∧ Hid (lq.map Ob.po = L) ∧ Below U.heap.size U wx

/-- No part of a heap lies in a block. -/
def NotIn (b : Nat) (A : Option Addr) (n : Nat) (l : List Ob) : Prop := (0 < n → ∀ ad, A = some ad → ad.block ≠ b) ∧ ∀ o ∈ l, 0 < o.n → ∀ ad, o.A = some ad → ad.block ≠ b
theorem notin_p {Y : World} {b lo n : Nat} {A : Option Addr} {l : List Ob} (h : Hp Y Y.heap.size A n l) (hf : Fr lo A l) (hb : b < lo ∨ Y.heap.size ≤ b) : NotIn b A n l := by
  refine ⟨fun h0 ad had => ?_, fun o ho h0 ad had => ?_⟩
  · obtain ⟨ab, ao, e, hlt, _⟩ := h.sl.at_ h0
    rw [had] at e; injection e with e
    have := hf.1 ad had
    subst e
    simp only at this ⊢
    omega
  · obtain ⟨ab, ao, e, hlt, _⟩ := (h.obs o ho).1.at_ h0
    rw [had] at e; injection e with e
    have := hf.2 o ho h0 ad had
    subst e
    simp only at this ⊢
    omega
theorem notin_q {b lo hi n : Nat} {A : Option Addr} {l : List Ob} (hf : Fr2 lo hi A l) (h1 : lo ≤ b) (h2 : b < hi) : NotIn b A n l :=
  ⟨fun _ ad had => by have := hf.1 ad had; omega, fun o ho h0 ad had => by have := hf.2 o ho h0 ad had; omega⟩
theorem Hp.setAt {w : World} {B b i n : Nat} {A : Option Addr} {l : List Ob} (h : Hp w B A n l) (hB : B ≤ w.heap.size) (hn : NotIn b A n l) (u : Value) : Hp (w.setCell ⟨b, i, none⟩ u) B A n l := by
  have hg := grown1 w ⟨b, i, none⟩ u
  exact ⟨h.sl.apart hB hg (fun h0 ad had e => hn.1 h0 ad had (by injection e)), fun o ho => ⟨(h.obs o ho).1.apart hB hg (fun h0 ad had e => hn.2 o ho h0 ad had (by injection e)), (h.obs o ho).2⟩⟩

section
variable {U Z : World} {L : List PO} {Ap Aq : Option Addr} {np cp nq cq b b' : Nat} {lp lq : List Ob} {u u' : Value}
theorem two_aa (hb : Below U.heap.size U Z) (hp : Hp Z Z.heap.size Ap np lp) (hq : Hp Z Z.heap.size Aq nq lq) (h1 : Hid (np = L.length)) (h2 : Hid (nq = L.length)) (h3 : Hid (lp.map Ob.po = L)) (h4 : Hid (lq.map Ob.po = L)) :
    Two U L (.pointer (some ⟨Z.heap.size, 0, none⟩)) (.pointer (some ⟨Z.heap.size + 1, 0, none⟩)) ((Z.alloc (.cells #[.slice Ap np cp] 24)).alloc (.cells #[.slice Aq nq cq] 24)) := by
  have hB : Below Z.heap.size Z ((Z.alloc (.cells #[.slice Ap np cp] 24)).alloc (.cells #[.slice Aq nq cq] 24)) := (by repeat (first | (with_reducible exact (Below.refl _ _)) | (with_reducible refine Below.drew ?_) | (with_reducible refine below_drewN ?_ _) | (with_reducible refine Below.setCell ?_ ?_ _; rotate_left; (first | omega | (simp <;> omega))) | (with_reducible refine Below.alloc ?_ ?_ _; rotate_left; (first | omega | (simp <;> omega)))))
  exact ⟨_, _, Ap, np, cp, lp, Aq, nq, cq, lq, rfl, rfl, by rw [cell_old _ _ _ _ (by simp), cell_new _ _ _ _ _ rfl]; rfl, by rw [cell_new _ _ _ _ _ (by simp)]; rfl, h1, h2, Lib.hid (hp.up hB), Lib.hid (hq.up hB), h3, h4, hb.trans (hB.mono hb.size)⟩
theorem two_aa' (hb : Below U.heap.size U Z) (hp : Hp Z Z.heap.size Ap np lp) (hq : Hp Z Z.heap.size Aq nq lq) (h1 : Hid (np = L.length)) (h2 : Hid (nq = L.length)) (h3 : Hid (lp.map Ob.po = L)) (h4 : Hid (lq.map Ob.po = L)) :
    Two U L (.pointer (some ⟨Z.heap.size + 1, 0, none⟩)) (.pointer (some ⟨Z.heap.size, 0, none⟩)) ((Z.alloc (.cells #[.slice Aq nq cq] 24)).alloc (.cells #[.slice Ap np cp] 24)) := by
  have hB : Below Z.heap.size Z ((Z.alloc (.cells #[.slice Aq nq cq] 24)).alloc (.cells #[.slice Ap np cp] 24)) := (by repeat (first | (with_reducible exact (Below.refl _ _)) | (with_reducible refine Below.drew ?_) | (with_reducible refine below_drewN ?_ _) | (with_reducible refine Below.setCell ?_ ?_ _; rotate_left; (first | omega | (simp <;> omega))) | (with_reducible refine Below.alloc ?_ ?_ _; rotate_left; (first | omega | (simp <;> omega)))))
  exact ⟨_, _, Ap, np, cp, lp, Aq, nq, cq, lq, rfl, rfl, by rw [cell_new _ _ _ _ _ (by simp)]; rfl, by rw [cell_old _ _ _ _ (by simp), cell_new _ _ _ _ _ rfl]; rfl, h1, h2, Lib.hid (hp.up hB), Lib.hid (hq.up hB), h3, h4, hb.trans (hB.mono hb.size)⟩
theorem two_sa (hb : Below U.heap.size U Z) (hp : Hp Z Z.heap.size Ap np lp) (hq : Hp Z Z.heap.size Aq nq lq) (h1 : Hid (np = L.length)) (h2 : Hid (nq = L.length)) (h3 : Hid (lp.map Ob.po = L)) (h4 : Hid (lq.map Ob.po = L))
    (hu : U.heap.size ≤ b) (hc : Z.cell? ⟨b, 0, none⟩ = some u) (hbp : NotIn b Ap np lp) (hbq : NotIn b Aq nq lq) :
    Two U L (.pointer (some ⟨b, 0, none⟩)) (.pointer (some ⟨Z.heap.size, 0, none⟩)) ((Z.setCell ⟨b, 0, none⟩ (.slice Ap np cp)).alloc (.cells #[.slice Aq nq cq] 24)) := by
  have hlt : b < Z.heap.size := World.block_lt_of_cell? Z _ hc
  have hz : (Z.setCell ⟨b, 0, none⟩ (.slice Ap np cp)).heap.size = Z.heap.size := by simp
  have hB : Below (Z.setCell ⟨b, 0, none⟩ (.slice Ap np cp)).heap.size (Z.setCell ⟨b, 0, none⟩ (.slice Ap np cp)) ((Z.setCell ⟨b, 0, none⟩ (.slice Ap np cp)).alloc (.cells #[.slice Aq nq cq] 24)) := (by repeat (first | (with_reducible exact (Below.refl _ _)) | (with_reducible refine Below.drew ?_) | (with_reducible refine below_drewN ?_ _) | (with_reducible refine Below.setCell ?_ ?_ _; rotate_left; (first | omega | (simp <;> omega))) | (with_reducible refine Below.alloc ?_ ?_ _; rotate_left; (first | omega | (simp <;> omega)))))
  have hS : Below U.heap.size U (Z.setCell ⟨b, 0, none⟩ (.slice Ap np cp)) := hb.setCell hu _
  exact ⟨_, _, Ap, np, cp, lp, Aq, nq, cq, lq, rfl, rfl, by rw [cell_old _ _ _ _ (by rw [hz]; exact hlt)]; exact World.cell?_setCell_same _ _ _ hc, by rw [cell_new _ _ _ _ _ hz.symm]; rfl, h1, h2,
    Lib.hid (((hp.setAt (Nat.le_refl _) hbp _).mono (Nat.le_of_eq hz.symm)).up hB), Lib.hid (((hq.setAt (Nat.le_refl _) hbq _).mono (Nat.le_of_eq hz.symm)).up hB), h3, h4, hS.trans (hB.mono hS.size)⟩
theorem two_as (hb : Below U.heap.size U Z) (hp : Hp Z Z.heap.size Ap np lp) (hq : Hp Z Z.heap.size Aq nq lq) (h1 : Hid (np = L.length)) (h2 : Hid (nq = L.length)) (h3 : Hid (lp.map Ob.po = L)) (h4 : Hid (lq.map Ob.po = L))
    (hu : U.heap.size ≤ b) (hc : Z.cell? ⟨b, 0, none⟩ = some u) (hbp : NotIn b Ap np lp) (hbq : NotIn b Aq nq lq) :
    Two U L (.pointer (some ⟨Z.heap.size, 0, none⟩)) (.pointer (some ⟨b, 0, none⟩)) ((Z.setCell ⟨b, 0, none⟩ (.slice Aq nq cq)).alloc (.cells #[.slice Ap np cp] 24)) := by
  have hlt : b < Z.heap.size := World.block_lt_of_cell? Z _ hc
  have hz : (Z.setCell ⟨b, 0, none⟩ (.slice Aq nq cq)).heap.size = Z.heap.size := by simp
  have hB : Below (Z.setCell ⟨b, 0, none⟩ (.slice Aq nq cq)).heap.size (Z.setCell ⟨b, 0, none⟩ (.slice Aq nq cq)) ((Z.setCell ⟨b, 0, none⟩ (.slice Aq nq cq)).alloc (.cells #[.slice Ap np cp] 24)) := (by repeat (first | (with_reducible exact (Below.refl _ _)) | (with_reducible refine Below.drew ?_) | (with_reducible refine below_drewN ?_ _) | (with_reducible refine Below.setCell ?_ ?_ _; rotate_left; (first | omega | (simp <;> omega))) | (with_reducible refine Below.alloc ?_ ?_ _; rotate_left; (first | omega | (simp <;> omega)))))
  have hS : Below U.heap.size U (Z.setCell ⟨b, 0, none⟩ (.slice Aq nq cq)) := hb.setCell hu _
  exact ⟨_, _, Ap, np, cp, lp, Aq, nq, cq, lq, rfl, rfl, by rw [cell_new _ _ _ _ _ hz.symm]; rfl, by rw [cell_old _ _ _ _ (by rw [hz]; exact hlt)]; exact World.cell?_setCell_same _ _ _ hc, h1, h2,
    Lib.hid (((hp.setAt (Nat.le_refl _) hbp _).mono (Nat.le_of_eq hz.symm)).up hB), Lib.hid (((hq.setAt (Nat.le_refl _) hbq _).mono (Nat.le_of_eq hz.symm)).up hB), h3, h4, hS.trans (hB.mono hS.size)⟩
theorem two_ss (hb : Below U.heap.size U Z) (hp : Hp Z Z.heap.size Ap np lp) (hq : Hp Z Z.heap.size Aq nq lq) (h1 : Hid (np = L.length)) (h2 : Hid (nq = L.length)) (h3 : Hid (lp.map Ob.po = L)) (h4 : Hid (lq.map Ob.po = L))
    (hu : U.heap.size ≤ b) (hu' : U.heap.size ≤ b') (hne : b ≠ b') (hc : Z.cell? ⟨b, 0, none⟩ = some u) (hc' : Z.cell? ⟨b', 0, none⟩ = some u') (hbp : NotIn b Ap np lp) (hbq : NotIn b Aq nq lq) (hbp' : NotIn b' Ap np lp) (hbq' : NotIn b' Aq nq lq) :
    Two U L (.pointer (some ⟨b, 0, none⟩)) (.pointer (some ⟨b', 0, none⟩)) ((Z.setCell ⟨b, 0, none⟩ (.slice Ap np cp)).setCell ⟨b', 0, none⟩ (.slice Aq nq cq)) := by
  have hz : (Z.setCell ⟨b, 0, none⟩ (.slice Ap np cp)).heap.size = Z.heap.size := by simp
  have hz2 : ((Z.setCell ⟨b, 0, none⟩ (.slice Ap np cp)).setCell ⟨b', 0, none⟩ (.slice Aq nq cq)).heap.size = Z.heap.size := by simp
  refine ⟨_, _, Ap, np, cp, lp, Aq, nq, cq, lq, rfl, rfl, ?_, ?_, h1, h2,
    Lib.hid (((hp.setAt (Nat.le_refl _) hbp _).setAt (Nat.le_of_eq hz.symm) hbp' _).mono (Nat.le_of_eq hz2.symm)), Lib.hid (((hq.setAt (Nat.le_refl _) hbq _).setAt (Nat.le_of_eq hz.symm) hbq' _).mono (Nat.le_of_eq hz2.symm)), h3, h4, (hb.setCell hu _).setCell hu' _⟩
  · rw [set_other _ _ _ _ (by intro e; injection e with e1 _; exact hne e1.symm)]; exact World.cell?_setCell_same _ _ _ hc
  · exact World.cell?_setCell_same _ _ _ (show _ = some u' by rw [set_other _ _ _ _ (by intro e; injection e with e1 _; exact hne e1)]; exact hc')
end
end Go.Proofs.Ytohflngcgmcllaa
