/- Objects got: program and reference. -/
import Derived.Test.YtfhpniafkkgibaaDoorB
namespace Go.Proofs.YtfhpniafkkgibaaDoor
open Go.RowKit

def getO (id : Int) (l : List PO) : PO := match idx id l with | some i => (match l[i]? with | some x => x | none => ⟨0, []⟩) | none => ⟨0, []⟩
def getB (id : Int) (l : List PO) : Bool := (idx id l).isSome
/-- What a call leaves that gives an object, and whether there is one. -/
def GivesB (x : PO) (b : Bool) (w : World) (e : Ending) (w' : World) : Prop := ∃ (A : Option Addr) (n c : Nat), e = .returned (.tuple #[.agg #[.int .i64 x.id, .slice A n c], .bool b]) ∧ n ≤ 8796093021952 ∧ Hid (Sl w' w'.heap.size 2 Val.cells A n x.s) ∧ Hid (∀ ad, A = some ad → w.heap.size ≤ ad.block) ∧ Below w.heap.size w w'

set_option maxHeartbeats 400000 in
theorem object_any (x : Ob) (w : World) (hx : Sl w w.heap.size 2 Val.cells x.A x.n x.s) (hn : x.n ≤ 8796093021952) :
    Calls Tryd.prog 32 #[.agg #[.int .i64 x.id, .slice x.A x.n x.c]] w (GivesO x.po w) := by
  obtain ⟨id, A, n, c, s⟩ := x
  simp only at hx hn ⊢
  obtain ⟨i0, hi, hz0, hz1, hz2⟩ := info_parts CloneVal.infoE
  obtain ⟨w2, hw2⟩ : ∃ w2, w2 = (w.alloc (.cells #[.int .i64 id, .slice A n c] 39)).alloc (.cells #[.int .i64 0, .slice none 0 0] 39) := ⟨_, rfl⟩
  have hb2 : Below w.heap.size w w2 := by rw [hw2]; exact (by repeat (first | (with_reducible exact (Below.refl _ _)) | (with_reducible refine Below.drew ?_) | (with_reducible refine below_drewN ?_ _) | (with_reducible refine Below.setCell ?_ ?_ _; rotate_left; (first | omega | (simp <;> omega))) | (with_reducible refine Below.alloc ?_ ?_ _; rotate_left; (first | omega | (simp <;> omega)))))
  have hzz : w2.heap.size = w.heap.size + 2 := by rw [hw2]; simp
  have c0 : w2.cell? ⟨w.heap.size, 0, none⟩ = some (.int .i64 id) := by rw [hw2, cell_old _ _ _ _ (by simp), cell_new _ _ _ _ _ rfl]; rfl
  have c1 : w2.cell? ⟨w.heap.size, 1, none⟩ = some (.slice A n c) := by rw [hw2, cell_old _ _ _ _ (by simp), cell_new _ _ _ _ _ rfl]; rfl
  have d0 : w2.cell? ⟨w.heap.size + 1, 0, none⟩ = some (.int .i64 0) := by rw [hw2, cell_new _ _ _ _ _ (by simp)]; rfl
  have d1 : w2.cell? ⟨w.heap.size + 1, 1, none⟩ = some (.slice none 0 0) := by rw [hw2, cell_new _ _ _ _ _ (by simp)]; rfl
  have f0 : ∀ j, w2.frozen? ⟨w.heap.size + 1, j, none⟩ = false := fun j => by rw [hw2, frozen_new _ _ _ _ _ (by simp)]
  have f1 : ∀ j, w2.frozen? ⟨w.heap.size, j, none⟩ = false := fun j => by rw [hw2, frozen_old _ _ _ _ (by simp), frozen_new _ _ _ _ _ (by simp)]
  have HX2 := Lib.hid (hx.up hb2)
  have HS := Lib.hid (HX2.out.src Val.size)
  have HL := Lib.hid hx.len
  clear hx
  go_enter Tryd.func32, Tryd.ntmps32
  go_wp2_with (at_builtin; rw [← hw2]; refine wpList_append_any rfl _ _ 37 rfl w2.heap.size 26 i0 _ 2 16 Tryd.underlying37 hi hz0 hz1 hz2 rfl (by decide) (.slice none 0 0) 0 [] (by simp [Act.eval]) (World.ownsRow_nil _ _ _ _) A n c (s.flatMap Val.cells) (by simp [Act.eval]) HS.out.1 (by rw [flat_len Val.size, HL.out]) HS.out.2 (val_one s) (by unfold maxLen; omega) (by omega) (Nat.le_refl _) ?_; intro A3 c3 w3 hown3 hgr3 hA3; have H3 := Lib.hid hown3; have hb3 : Below w2.heap.size w2 w3 := (Below.refl _ _).grown hgr3 (Nat.le_refl _) (fun k hk => by cases hk); have e0 := (belc hb3 (b := w.heap.size) (o := 0) (by omega)).trans c0; have e1 := (belc hb3 (b := w.heap.size) (o := 1) (by omega)).trans c1; have e2 := (belc hb3 (b := w.heap.size + 1) (o := 0) (by omega)).trans d0; have e3 := (belc hb3 (b := w.heap.size + 1) (o := 1) (by omega)).trans d1; have g0 := (belf hb3 (b := w.heap.size + 1) (o := 0) (by omega)).trans (f0 0); have g1 := (belf hb3 (b := w.heap.size + 1) (o := 1) (by omega)).trans (f0 1); have g2 := (belf hb3 (b := w.heap.size) (o := 1) (by omega)).trans (f1 1); clear hown3 hgr3 hA3)
  refine bodyPost_ret (v := .agg #[.int .i64 id, .slice A3 n c3]) (by simp [results, Tryd.results32, go_sem, e2, e3]) rfl ?_
  have hbl : ∀ p : Addr, p.block < w2.heap.size → (Value.slice A3 n c3).ownBlock ≠ some p.block := fun p hp h => by
    have := (own_block_lt (own_eq (Nat.zero_add n) H3.out) h).1
    omega
  refine ⟨A3, n, c3, rfl, Lib.hid (own_mono (own_setCell (own_setCell (own_setCell (own_eq (Nat.zero_add n) H3.out) _ (hbl _ (by show w.heap.size < _; omega))) _ (hbl _ (by show w.heap.size + 1 < _; omega))) _ (hbl _ (by show w.heap.size + 1 < _; omega))) (by omega)), HL.out.symm, ?_⟩
  exact (((hb2.trans (hb3.mono hb2.size)).setCell (by simp) _).setCell (by simp) _).setCell (by simp) _

set_option maxHeartbeats 1000000 in
theorem get_any (A : Option Addr) (n c : Nat) (l : List Ob) (id : Int) (w : World) (hs : Hp w w.heap.size A n l) (hn : n ≤ 9000000000000) :
    Calls Tryd.prog 28 #[.agg #[.slice A n c], .int .i64 id] w (GivesB (getO id (l.map Ob.po)) (getB id (l.map Ob.po)) w) := by
  have HO := Lib.hid hs.obs
  obtain ⟨w2, hw2⟩ : ∃ w2, w2 = (w.alloc (.cells #[.slice A n c] 24)).alloc (.cells #[.int .i64 0, .slice none 0 0] 39) := ⟨_, rfl⟩
  have hb2 : Below w.heap.size w w2 := by rw [hw2]; exact (by repeat (first | (with_reducible exact (Below.refl _ _)) | (with_reducible refine Below.drew ?_) | (with_reducible refine below_drewN ?_ _) | (with_reducible refine Below.setCell ?_ ?_ _; rotate_left; (first | omega | (simp <;> omega))) | (with_reducible refine Below.alloc ?_ ?_ _; rotate_left; (first | omega | (simp <;> omega)))))
  have hz2 : w2.heap.size = w.heap.size + 2 := by rw [hw2]; simp
  have HC := Lib.hid (show w2.cell? ⟨w.heap.size, 0, none⟩ = some (.slice A n c) from by rw [hw2, cell_old _ _ _ _ (by simp), cell_new _ _ _ _ _ rfl]; rfl)
  have HD0 := Lib.hid (show w2.cell? ⟨w.heap.size + 1, 0, none⟩ = some (.int .i64 0) from by rw [hw2, cell_new _ _ _ _ _ (by simp)]; rfl)
  have HD1 := Lib.hid (show w2.cell? ⟨w.heap.size + 1, 1, none⟩ = some (.slice none 0 0) from by rw [hw2, cell_new _ _ _ _ _ (by simp)]; rfl)
  have HF := Lib.hid (show ∀ j, w2.frozen? ⟨w.heap.size + 1, j, none⟩ = false from fun j => by rw [hw2, frozen_new _ _ _ _ _ (by simp)])
  have HS2 := Lib.hid (hs.sl.up hb2)
  go_enter Tryd.func28, Tryd.ntmps28
  go_wp2_with fail
  rw [← hw2]
  have HW := Lib.hid hw2
  clear hw2
  refine (index_any A n c l id w2 HS2.out hn).mono ?_
  rintro e w3 ⟨rfl, hb3⟩
  have e0 : w3.cell? ⟨w.heap.size, 0, none⟩ = some (.slice A n c) := (belc hb3 (by omega)).trans HC.out
  have e1 : w3.cell? ⟨w.heap.size + 1, 0, none⟩ = some (.int .i64 0) := (belc hb3 (by omega)).trans HD0.out
  have e2 : w3.cell? ⟨w.heap.size + 1, 1, none⟩ = some (.slice none 0 0) := (belc hb3 (by omega)).trans HD1.out
  have f0 : w3.frozen? ⟨w.heap.size + 1, 0, none⟩ = false := (belf hb3 (by omega)).trans (HF.out 0)
  have f1 : w3.frozen? ⟨w.heap.size + 1, 1, none⟩ = false := (belf hb3 (by omega)).trans (HF.out 1)
  have hbw : Below w.heap.size w w3 := hb2.trans (hb3.mono hb2.size)
  have hz3 := hb3.size
  rcases idx_cases id (l.map Ob.po) with ⟨hi, _⟩ | ⟨i, x, hi, hx, hxid, hfst⟩
  · have HR1 := Lib.hid (show getO id (l.map Ob.po) = ⟨0, []⟩ from by rw [getO, hi])
    have HR2 := Lib.hid (show getB id (l.map Ob.po) = false from by rw [getB, hi]; rfl)
    have HI := Lib.hid (show idxI id (l.map Ob.po) = -1 from by rw [idxI, hi])
    clear hi
    rw [HI.out]
    go_wp2
    refine bodyPost_ret (v := .tuple #[.agg #[.int .i64 0, .slice none 0 0], .bool false]) (by simp [results, Tryd.results28, go_sem, e1, e2]) rfl ?_
    rw [HR1.out, HR2.out]
    exact ⟨none, 0, 0, rfl, by omega, Lib.hid Sl.nil, Lib.hid (fun _ h => by cases h), (by repeat (first | (with_reducible exact hbw) | (with_reducible refine Below.drew ?_) | (with_reducible refine below_drewN ?_ _) | (with_reducible refine Below.setCell ?_ ?_ _; rotate_left; (first | omega | (simp <;> omega))) | (with_reducible refine Below.alloc ?_ ?_ _; rotate_left; (first | omega | (simp <;> omega)))))⟩
  · clear hxid hfst
    obtain ⟨o, ho, rfl⟩ := po_at' hx
    have hin : i < n := by rw [← hs.sl.len]; exact (List.getElem?_eq_some_iff.1 ho).1
    obtain ⟨o1, o2⟩ := HO.out o (List.mem_of_getElem? ho)
    obtain ⟨ab, ao, rfl, hlo, hat⟩ := hs.sl.at_ (by omega)
    have c0 : w3.cell? ⟨ab, ao + i * 2, none⟩ = some (.int .i64 o.id) := (belc hbw hlo).trans (hat i o ho 0 _ rfl)
    have c1 : w3.cell? ⟨ab, ao + i * 2 + 1, none⟩ = some (.slice o.A o.n o.c) := (belc hbw hlo).trans (hat i o ho 1 _ rfl)
    have HI := Lib.hid (show idxI id (l.map Ob.po) = i from by rw [idxI, hi])
    have HR1 := Lib.hid (show getO id (l.map Ob.po) = o.po from by rw [getO, hi]; simp only [hx])
    have HR2 := Lib.hid (show getB id (l.map Ob.po) = true from by rw [getB, hi]; rfl)
    have O3 := Lib.hid (o1.up hbw)
    have HXL := Lib.hid o1.len
    have hi0 : ¬ (i : Int) < 0 := by omega
    clear hat hx ho hi o1
    rw [HI.out]
    go_wp2_with fail
    refine (copied_any o w3 O3.out o2).mono ?_
    rintro e w4 ⟨A4, n4, c4, rfl, hown4, hn4, hb4⟩
    have g1 : w4.cell? ⟨w.heap.size + 1, 0, none⟩ = some (.int .i64 0) := (belc hb4 (by omega)).trans e1
    have g2 : w4.cell? ⟨w.heap.size + 1, 1, none⟩ = some (.slice none 0 0) := (belc hb4 (by omega)).trans e2
    have k0 : w4.frozen? ⟨w.heap.size + 1, 0, none⟩ = false := (belf hb4 (by omega)).trans f0
    have k1 : w4.frozen? ⟨w.heap.size + 1, 1, none⟩ = false := (belf hb4 (by omega)).trans f1
    have hbe := hbw.trans (hb4.mono hbw.size)
    have HN4 := Lib.hid hn4
    clear hn4
    go_wp2
    refine bodyPost_ret (v := .tuple #[.agg #[.int .i64 o.id, .slice A4 n4 c4], .bool true]) (by simp [results, Tryd.results28, go_sem, g1, g2, Ob.po]) rfl ?_
    rw [HR1.out, HR2.out]
    have hbl : (Value.slice A4 n4 c4).ownBlock ≠ some (w.heap.size + 1) := fun h => by
      have := (own_block_lt hown4.out h).1
      omega
    refine ⟨A4, n4, c4, rfl, ?_, Lib.hid (Sl.of_own Val.size HN4.out.symm (own_setCell (own_setCell hown4.out _ hbl) _ hbl)), Lib.hid (fun ad had => by subst had; have := (own_block_lt hown4.out (k := ad.block) rfl).1; omega), (by repeat (first | (with_reducible exact hbe) | (with_reducible refine Below.drew ?_) | (with_reducible refine below_drewN ?_ _) | (with_reducible refine Below.setCell ?_ ?_ _; rotate_left; (first | omega | (simp <;> omega))) | (with_reducible refine Below.alloc ?_ ?_ _; rotate_left; (first | omega | (simp <;> omega)))))⟩
    have h1 := HN4.out; have h2 : o.s.length = o.n := HXL.out; have h3 : o.po.s.length = o.s.length := rfl; omega

set_option maxHeartbeats 1000000 in
theorem refget_any (A : Option Addr) (n c : Nat) (l : List Ob) (id : Int) (w : World) (hs : Hp w w.heap.size A n l) (hn : n ≤ 9000000000000) :
    Calls Tryd.prog 19 #[.agg #[.slice A n c], .int .i64 id] w (GivesB (getO id (l.map Ob.po)) (getB id (l.map Ob.po)) w) := by
  have HO := Lib.hid hs.obs
  obtain ⟨w2, hw2⟩ : ∃ w2, w2 = (w.alloc (.cells #[.slice A n c] 24)).alloc (.cells #[.int .i64 0, .slice none 0 0] 39) := ⟨_, rfl⟩
  have hb2 : Below w.heap.size w w2 := by rw [hw2]; exact (by repeat (first | (with_reducible exact (Below.refl _ _)) | (with_reducible refine Below.drew ?_) | (with_reducible refine below_drewN ?_ _) | (with_reducible refine Below.setCell ?_ ?_ _; rotate_left; (first | omega | (simp <;> omega))) | (with_reducible refine Below.alloc ?_ ?_ _; rotate_left; (first | omega | (simp <;> omega)))))
  have hz2 : w2.heap.size = w.heap.size + 2 := by rw [hw2]; simp
  have HC := Lib.hid (show w2.cell? ⟨w.heap.size, 0, none⟩ = some (.slice A n c) from by rw [hw2, cell_old _ _ _ _ (by simp), cell_new _ _ _ _ _ rfl]; rfl)
  have HD0 := Lib.hid (show w2.cell? ⟨w.heap.size + 1, 0, none⟩ = some (.int .i64 0) from by rw [hw2, cell_new _ _ _ _ _ (by simp)]; rfl)
  have HD1 := Lib.hid (show w2.cell? ⟨w.heap.size + 1, 1, none⟩ = some (.slice none 0 0) from by rw [hw2, cell_new _ _ _ _ _ (by simp)]; rfl)
  have HF := Lib.hid (show ∀ j, w2.frozen? ⟨w.heap.size + 1, j, none⟩ = false from fun j => by rw [hw2, frozen_new _ _ _ _ _ (by simp)])
  have HS2 := Lib.hid (hs.sl.up hb2)
  go_enter Tryd.func19, Tryd.ntmps19
  go_wp2_with fail
  rw [← hw2]
  have HW := Lib.hid hw2
  clear hw2
  refine (refat_any A n c l id w2 HS2.out hn).mono ?_
  rintro e w3 ⟨rfl, hb3⟩
  have e0 : w3.cell? ⟨w.heap.size, 0, none⟩ = some (.slice A n c) := (belc hb3 (by omega)).trans HC.out
  have e1 : w3.cell? ⟨w.heap.size + 1, 0, none⟩ = some (.int .i64 0) := (belc hb3 (by omega)).trans HD0.out
  have e2 : w3.cell? ⟨w.heap.size + 1, 1, none⟩ = some (.slice none 0 0) := (belc hb3 (by omega)).trans HD1.out
  have f0 : w3.frozen? ⟨w.heap.size + 1, 0, none⟩ = false := (belf hb3 (by omega)).trans (HF.out 0)
  have f1 : w3.frozen? ⟨w.heap.size + 1, 1, none⟩ = false := (belf hb3 (by omega)).trans (HF.out 1)
  have hbw : Below w.heap.size w w3 := hb2.trans (hb3.mono hb2.size)
  have hz3 := hb3.size
  rcases idx_cases id (l.map Ob.po) with ⟨hi, _⟩ | ⟨i, x, hi, hx, hxid, hfst⟩
  · have HR1 := Lib.hid (show getO id (l.map Ob.po) = ⟨0, []⟩ from by rw [getO, hi])
    have HR2 := Lib.hid (show getB id (l.map Ob.po) = false from by rw [getB, hi]; rfl)
    have HI := Lib.hid (show idxI id (l.map Ob.po) = -1 from by rw [idxI, hi])
    clear hi
    rw [HI.out]
    go_wp2
    refine bodyPost_ret (v := .tuple #[.agg #[.int .i64 0, .slice none 0 0], .bool false]) (by simp [results, Tryd.results19, go_sem, e1, e2]) rfl ?_
    rw [HR1.out, HR2.out]
    exact ⟨none, 0, 0, rfl, by omega, Lib.hid Sl.nil, Lib.hid (fun _ h => by cases h), (by repeat (first | (with_reducible exact hbw) | (with_reducible refine Below.drew ?_) | (with_reducible refine below_drewN ?_ _) | (with_reducible refine Below.setCell ?_ ?_ _; rotate_left; (first | omega | (simp <;> omega))) | (with_reducible refine Below.alloc ?_ ?_ _; rotate_left; (first | omega | (simp <;> omega)))))⟩
  · clear hxid hfst
    obtain ⟨o, ho, rfl⟩ := po_at' hx
    have hin : i < n := by rw [← hs.sl.len]; exact (List.getElem?_eq_some_iff.1 ho).1
    obtain ⟨o1, o2⟩ := HO.out o (List.mem_of_getElem? ho)
    obtain ⟨ab, ao, rfl, hlo, hat⟩ := hs.sl.at_ (by omega)
    have c0 : w3.cell? ⟨ab, ao + i * 2, none⟩ = some (.int .i64 o.id) := (belc hbw hlo).trans (hat i o ho 0 _ rfl)
    have c1 : w3.cell? ⟨ab, ao + i * 2 + 1, none⟩ = some (.slice o.A o.n o.c) := (belc hbw hlo).trans (hat i o ho 1 _ rfl)
    have HI := Lib.hid (show idxI id (l.map Ob.po) = i from by rw [idxI, hi])
    have HR1 := Lib.hid (show getO id (l.map Ob.po) = o.po from by rw [getO, hi]; simp only [hx])
    have HR2 := Lib.hid (show getB id (l.map Ob.po) = true from by rw [getB, hi]; rfl)
    have O3 := Lib.hid (o1.up hbw)
    have HXL := Lib.hid o1.len
    have hi0 : ¬ (i : Int) < 0 := by omega
    clear hat hx ho hi o1
    rw [HI.out]
    go_wp2_with fail
    refine (object_any o w3 O3.out o2).mono ?_
    rintro e w4 ⟨A4, n4, c4, rfl, hown4, hn4, hb4⟩
    have g1 : w4.cell? ⟨w.heap.size + 1, 0, none⟩ = some (.int .i64 0) := (belc hb4 (by omega)).trans e1
    have g2 : w4.cell? ⟨w.heap.size + 1, 1, none⟩ = some (.slice none 0 0) := (belc hb4 (by omega)).trans e2
    have k0 : w4.frozen? ⟨w.heap.size + 1, 0, none⟩ = false := (belf hb4 (by omega)).trans f0
    have k1 : w4.frozen? ⟨w.heap.size + 1, 1, none⟩ = false := (belf hb4 (by omega)).trans f1
    have hbe := hbw.trans (hb4.mono hbw.size)
    have HN4 := Lib.hid hn4
    clear hn4
    go_wp2
    refine bodyPost_ret (v := .tuple #[.agg #[.int .i64 o.id, .slice A4 n4 c4], .bool true]) (by simp [results, Tryd.results19, go_sem, g1, g2, Ob.po]) rfl ?_
    rw [HR1.out, HR2.out]
    have hbl : (Value.slice A4 n4 c4).ownBlock ≠ some (w.heap.size + 1) := fun h => by
      have := (own_block_lt hown4.out h).1
      omega
    refine ⟨A4, n4, c4, rfl, ?_, Lib.hid (Sl.of_own Val.size HN4.out.symm (own_setCell (own_setCell hown4.out _ hbl) _ hbl)), Lib.hid (fun ad had => by subst had; have := (own_block_lt hown4.out (k := ad.block) rfl).1; omega), (by repeat (first | (with_reducible exact hbe) | (with_reducible refine Below.drew ?_) | (with_reducible refine below_drewN ?_ _) | (with_reducible refine Below.setCell ?_ ?_ _; rotate_left; (first | omega | (simp <;> omega))) | (with_reducible refine Below.alloc ?_ ?_ _; rotate_left; (first | omega | (simp <;> omega)))))⟩
    have h1 := HN4.out; have h2 : o.s.length = o.n := HXL.out; have h3 : o.po.s.length = o.s.length := rfl; omega
end Go.Proofs.YtfhpniafkkgibaaDoor
