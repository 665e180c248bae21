/- The first cell that is wrong: the reference. -/
import Derived.Test.YtfhpniafkkgibaaDoorC
import Derived.Test.YtfhpniafkkgibaaDoorG
namespace Go.Proofs.YtfhpniafkkgibaaDoor
open Go.RowKit

def badC (L : List PO) (c : Cl) : Bool := !(readB c.id c.field L) || (readD c.id c.field L).ref != c.ref || (readD c.id c.field L).n != c.n
def wrongP (L : List PO) (cs : List Cl) : Option Cl := cs.find? (badC L)
def outC : Option Cl → Value
  | some x => .tuple #[.agg x.cells.toArray, .bool true]
  | none => .tuple #[.agg #[.int .i64 0, .int .i64 0, .bool false, .int .i64 0], .bool false]
theorem wrong_none {L : List PO} {cs : List Cl} (h : ∀ (i : Nat) (x : Cl), cs[i]? = some x → badC L x = false) : wrongP L cs = none := by
  unfold wrongP
  rw [List.find?_eq_none]
  intro x hx
  obtain ⟨i, hi⟩ := List.getElem?_of_mem hx
  simp [h i x hi]
theorem wrong_at {L : List PO} : ∀ {cs : List Cl} {k : Nat} {x : Cl}, cs[k]? = some x → badC L x = true → (∀ (i : Nat) (y : Cl), i < k → cs[i]? = some y → badC L y = false) → wrongP L cs = some x
  | [], k, x, h, _, _ => by simp at h
  | y :: cs, 0, x, h, hb, _ => by
    simp at h; subst h
    simp [wrongP, hb]
  | y :: cs, k + 1, x, h, hb, hn => by
    have h0 := hn 0 y (by omega) rfl
    have ih := wrong_at (cs := cs) (k := k) (x := x) (by simpa using h) hb (fun i z hi hz => hn (i + 1) z (by omega) (by simpa using hz))
    unfold wrongP at ih ⊢
    rw [List.find?_cons, h0]
    exact ih

set_option maxRecDepth 100000 in
set_option maxHeartbeats 2000000 in
theorem wrong_any (A : Option Addr) (n c : Nat) (l : List Ob) (B : Option Addr) (m d : Nat) (cs : List Cl) (w : World) (hs : Hp w w.heap.size A n l) (hn : n ≤ 9000000000000) (hc : Sl w w.heap.size 4 Cl.cells B m cs) (hm : m ≤ 900000) :
    Calls Tryd.prog 15 #[.agg #[.slice A n c], .slice B m d] w fun e w' => e = .returned (outC (wrongP (l.map Ob.po) cs)) ∧ Below w.heap.size w w' := by
  have HS := Lib.hid hs
  have HL := Lib.hid hc.len
  obtain ⟨W, hW⟩ : ∃ W, W = (w.alloc (.cells #[.slice A n c] 24)).alloc (.cells #[.int .i64 0, .int .i64 0, .bool false, .int .i64 0] 42) := ⟨_, rfl⟩
  have hWb : Below w.heap.size w W := by rw [hW]; exact (by repeat (first | (with_reducible exact (Below.refl _ _)) | (with_reducible refine Below.drew ?_) | (with_reducible refine below_drewN ?_ _) | (with_reducible refine Below.setCell ?_ ?_ _; rotate_left; (first | omega | (simp <;> omega))) | (with_reducible refine Below.alloc ?_ ?_ _; rotate_left; (first | omega | (simp <;> omega)))))
  have hWz : W.heap.size = w.heap.size + 2 := by rw [hW]; simp
  have q2 : W.cell? ⟨w.heap.size, 0, none⟩ = some (.slice A n c) := (by rw [hW, cell_old _ _ _ _ (by simp <;> omega), cell_new _ _ _ _ _ (by simp <;> omega)]; rfl)
  have q40 : W.cell? ⟨w.heap.size + 1, 0, none⟩ = some (.int .i64 0) := (by rw [hW, cell_new _ _ _ _ _ (by simp <;> omega)]; rfl)
  have q41 : W.cell? ⟨w.heap.size + 1, 1, none⟩ = some (.int .i64 0) := (by rw [hW, cell_new _ _ _ _ _ (by simp <;> omega)]; rfl)
  have q42 : W.cell? ⟨w.heap.size + 1, 2, none⟩ = some (.bool false) := (by rw [hW, cell_new _ _ _ _ _ (by simp <;> omega)]; rfl)
  have q43 : W.cell? ⟨w.heap.size + 1, 3, none⟩ = some (.int .i64 0) := (by rw [hW, cell_new _ _ _ _ _ (by simp <;> omega)]; rfl)
  have q4f : ∀ j, W.frozen? ⟨w.heap.size + 1, j, none⟩ = false := fun j => (by rw [hW, frozen_new _ _ _ _ _ (by simp <;> omega)])
  have HQ := Lib.hid (show W.cell? ⟨w.heap.size, 0, none⟩ = some (.slice A n c) ∧ W.cell? ⟨w.heap.size + 1, 0, none⟩ = some (.int .i64 0) ∧ W.cell? ⟨w.heap.size + 1, 1, none⟩ = some (.int .i64 0) ∧ W.cell? ⟨w.heap.size + 1, 2, none⟩ = some (.bool false) ∧ W.cell? ⟨w.heap.size + 1, 3, none⟩ = some (.int .i64 0) ∧ ∀ j, W.frozen? ⟨w.heap.size + 1, j, none⟩ = false from ⟨q2, q40, q41, q42, q43, q4f⟩)
  have HB := Lib.hid hWb
  have HZ := Lib.hid hWz
  clear q2 q40 q41 q42 q43 q4f hWb hWz
  go_enter Tryd.func15, Tryd.ntmps15
  go_wp2_with fail
  rw [← hW]
  clear hW
  go_loopw [12] (fun i wr => ∃ k : Nat, k ≤ m ∧ i = .int .i64 k ∧ Hid (∀ (i : Nat) (x : Cl), i < k → cs[i]? = some x → badC (l.map Ob.po) x = false) ∧ Below W.heap.size W wr) (fun i _ => m - (intOf i).toNat)
  case atStart => exact ⟨0, Nat.zero_le _, rfl, Lib.hid (fun i x h => absurd h (by omega)), Below.refl _ _⟩
  case round =>
    obtain ⟨k, hk, rfl, hno, hb⟩ := hrel
    have hz := HZ.out
    have hzr := hb.size
    have r2 := (belc hb (by omega)).trans HQ.out.1
    have hbw : Below w.heap.size w wr := HB.out.trans (hb.mono (by omega))
    by_cases hlt : k < m
    · obtain ⟨ab, ao, rfl, hlo, hat⟩ := hc.at_ (by omega)
      obtain ⟨x, hx⟩ : ∃ x, cs[k]? = some x := ⟨_, List.getElem?_eq_getElem (by rw [HL.out]; exact hlt)⟩
      have c0 : wr.cell? ⟨ab, ao + k * 4, none⟩ = some (.int .i64 x.id) := (belc hbw hlo).trans (hat k x hx 0 _ rfl)
      have c1 : wr.cell? ⟨ab, ao + k * 4 + 1, none⟩ = some (.int .i64 x.field) := (belc hbw hlo).trans (hat k x hx 1 _ rfl)
      have c2 : wr.cell? ⟨ab, ao + k * 4 + 2, none⟩ = some (.bool x.ref) := (belc hbw hlo).trans (hat k x hx 2 _ rfl)
      have c3 : wr.cell? ⟨ab, ao + k * 4 + 3, none⟩ = some (.int .i64 x.n) := (belc hbw hlo).trans (hat k x hx 3 _ rfl)
      have HX := Lib.hid hx
      have HBW := Lib.hid hbw
      have hl2 : w.heap.size < wr.heap.size := by omega
      have hl4 : w.heap.size + 1 < wr.heap.size := by omega
      obtain ⟨V, hV⟩ : ∃ V, V = wr.alloc (.cells #[.int .i64 x.id, .int .i64 x.field, .bool x.ref, .int .i64 x.n] 42) := ⟨_, rfl⟩
      have hbV : Below wr.heap.size wr V := by rw [hV]; exact (Below.refl _ _).alloc (Nat.le_refl _) _
      have hzV : V.heap.size = wr.heap.size + 1 := by rw [hV]; simp
      have v0 : V.cell? ⟨wr.heap.size, 0, none⟩ = some (.int .i64 x.id) := (by rw [hV, cell_new _ _ _ _ _ (by simp <;> omega)]; rfl)
      have v1 : V.cell? ⟨wr.heap.size, 1, none⟩ = some (.int .i64 x.field) := (by rw [hV, cell_new _ _ _ _ _ (by simp <;> omega)]; rfl)
      have v2 : V.cell? ⟨wr.heap.size, 2, none⟩ = some (.bool x.ref) := (by rw [hV, cell_new _ _ _ _ _ (by simp <;> omega)]; rfl)
      have v3 : V.cell? ⟨wr.heap.size, 3, none⟩ = some (.int .i64 x.n) := (by rw [hV, cell_new _ _ _ _ _ (by simp <;> omega)]; rfl)
      have HP := Lib.hid (HS.out.up (hbw.trans (hbV.mono (by omega))))
      have HBV := Lib.hid hbV
      have HZV := Lib.hid hzV
      have hlV : wr.heap.size < V.heap.size := by omega
      clear hat hx hz hbw hbV hzV
      go_wp2_with fail
      rw [← hV]
      clear hV c0 c1 c2 c3
      refine (refread_any A n c l x.id x.field V HP.out hn).mono ?_
      rintro e w1 ⟨rfl, hb1⟩
      have r2 := (belc hb1 (by omega)).trans ((belc HBV.out hl2).trans r2)
      have v0 := (belc hb1 hlV).trans v0
      have v1 := (belc hb1 hlV).trans v1
      have v2 := (belc hb1 hlV).trans v2
      have v3 := (belc hb1 hlV).trans v3
      have q40 := (belc hb1 (b := w.heap.size + 1) (o := 0) (by omega)).trans ((belc HBV.out hl4).trans ((belc hb (by have := HZ.out; omega)).trans HQ.out.2.1))
      have q41 := (belc hb1 (b := w.heap.size + 1) (o := 1) (by omega)).trans ((belc HBV.out hl4).trans ((belc hb (by have := HZ.out; omega)).trans HQ.out.2.2.1))
      have q42 := (belc hb1 (b := w.heap.size + 1) (o := 2) (by omega)).trans ((belc HBV.out hl4).trans ((belc hb (by have := HZ.out; omega)).trans HQ.out.2.2.2.1))
      have q43 := (belc hb1 (b := w.heap.size + 1) (o := 3) (by omega)).trans ((belc HBV.out hl4).trans ((belc hb (by have := HZ.out; omega)).trans HQ.out.2.2.2.2.1))
      have q4f := fun j => (belf hb1 (b := w.heap.size + 1) (o := j) (by omega)).trans ((belf HBV.out hl4).trans ((belf hb (by have := HZ.out; omega)).trans (HQ.out.2.2.2.2.2 j)))
      have HB1 := Lib.hid (show Below W.heap.size W w1 from hb.trans ((HBV.out.mono hzr).trans (hb1.mono (by omega))))
      have HBW1 := Lib.hid (HBW.out.trans ((HBV.out.mono HBW.out.size).trans (hb1.mono (by have := HBW.out.size; omega))))
      have hl1 : wr.heap.size < w1.heap.size := by have := hb1.size; omega
      have hl41 : w.heap.size + 1 < w1.heap.size := by omega
      obtain ⟨rb, hrb⟩ : ∃ b, b = readB x.id x.field (l.map Ob.po) := ⟨_, rfl⟩
      obtain ⟨rv, hrv⟩ : ∃ v, v = readD x.id x.field (l.map Ob.po) := ⟨_, rfl⟩
      rw [← hrb, ← hrv]
      have HBC := Lib.hid (show badC (l.map Ob.po) x = (!rb || rv.ref != x.ref || rv.n != x.n) from by rw [hrb, hrv]; rfl)
      clear hrb hrv hb1 hb
      cases rb
      · have HW := Lib.hid (show wrongP (l.map Ob.po) cs = some x from wrong_at HX.out (by rw [HBC.out]; simp) hno.out)
        go_wp2
        all_goals
          refine bodyPost_ret (v := .tuple #[.agg #[.int .i64 x.id, .int .i64 x.field, .bool x.ref, .int .i64 x.n], .bool true]) (by simp [results, Tryd.results15, go_sem, q40, q41, q42, q43, hl41, World.cell?_alloc_lt]) rfl ⟨?_, (by repeat (first | (with_reducible exact HBW1.out) | (with_reducible refine Below.drew ?_) | (with_reducible refine below_drewN ?_ _) | (with_reducible refine Below.setCell ?_ ?_ _; rotate_left; (first | omega | (simp <;> omega))) | (with_reducible refine Below.alloc ?_ ?_ _; rotate_left; (first | omega | (simp <;> omega)))))⟩
          rw [HW.out]
          rfl
      · by_cases h1 : rv.ref = x.ref
        · by_cases h2 : rv.n = x.n
          · rw [h1, h2]
            have HOK := Lib.hid (show badC (l.map Ob.po) x = false from by rw [HBC.out, h1, h2]; simp)
            clear h1 h2
            go_wp2
            go_roundw
            case rel => exact ⟨k + 1, by omega, by go_num, Lib.hid (fun i y hi hy => by
              by_cases hik : i = k
              · subst hik; rw [HX.out] at hy; injection hy with hy; subst hy; exact HOK.out
              · exact hno.out i y (by omega) hy), (by repeat (first | (with_reducible exact HB1.out) | (with_reducible refine Below.drew ?_) | (with_reducible refine below_drewN ?_ _) | (with_reducible refine Below.setCell ?_ ?_ _; rotate_left; (first | omega | (simp <;> omega))) | (with_reducible refine Below.alloc ?_ ?_ _; rotate_left; (first | omega | (simp <;> omega)))))⟩
            case measure => simp [intOf]; omega
          · have HW := Lib.hid (show wrongP (l.map Ob.po) cs = some x from wrong_at HX.out (by rw [HBC.out]; simp [h2]) hno.out)
            have g1 : (rv.ref == x.ref) = true := by simp [h1]
            have g2 : (rv.n == x.n) = false := by simp [h2]
            go_wp2
            all_goals
              refine bodyPost_ret (v := .tuple #[.agg #[.int .i64 x.id, .int .i64 x.field, .bool x.ref, .int .i64 x.n], .bool true]) (by simp [results, Tryd.results15, go_sem, q40, q41, q42, q43, hl41, World.cell?_alloc_lt]) rfl ⟨?_, (by repeat (first | (with_reducible exact HBW1.out) | (with_reducible refine Below.drew ?_) | (with_reducible refine below_drewN ?_ _) | (with_reducible refine Below.setCell ?_ ?_ _; rotate_left; (first | omega | (simp <;> omega))) | (with_reducible refine Below.alloc ?_ ?_ _; rotate_left; (first | omega | (simp <;> omega)))))⟩
              rw [HW.out]
              rfl
        · have HW := Lib.hid (show wrongP (l.map Ob.po) cs = some x from wrong_at HX.out (by rw [HBC.out]; simp [h1]) hno.out)
          have g1 : (rv.ref == x.ref) = false := by simp [h1]
          go_wp2
          all_goals
            refine bodyPost_ret (v := .tuple #[.agg #[.int .i64 x.id, .int .i64 x.field, .bool x.ref, .int .i64 x.n], .bool true]) (by simp [results, Tryd.results15, go_sem, q40, q41, q42, q43, hl41, World.cell?_alloc_lt]) rfl ⟨?_, (by repeat (first | (with_reducible exact HBW1.out) | (with_reducible refine Below.drew ?_) | (with_reducible refine below_drewN ?_ _) | (with_reducible refine Below.setCell ?_ ?_ _; rotate_left; (first | omega | (simp <;> omega))) | (with_reducible refine Below.alloc ?_ ?_ _; rotate_left; (first | omega | (simp <;> omega)))))⟩
            rw [HW.out]
            rfl
    · obtain rfl : k = m := by omega
      have q40 := (belc hb (b := w.heap.size + 1) (o := 0) (by omega)).trans HQ.out.2.1
      have q41 := (belc hb (b := w.heap.size + 1) (o := 1) (by omega)).trans HQ.out.2.2.1
      have q42 := (belc hb (b := w.heap.size + 1) (o := 2) (by omega)).trans HQ.out.2.2.2.1
      have q43 := (belc hb (b := w.heap.size + 1) (o := 3) (by omega)).trans HQ.out.2.2.2.2.1
      have q4f := fun j => (belf hb (b := w.heap.size + 1) (o := j) (by omega)).trans (HQ.out.2.2.2.2.2 j)
      have HW := Lib.hid (show wrongP (l.map Ob.po) cs = none from wrong_none fun i x hx => hno.out i x (by have := (List.getElem?_eq_some_iff.1 hx).1; rw [HL.out] at this; exact this) hx)
      go_wp2
      refine bodyPost_ret (v := .tuple #[.agg #[.int .i64 0, .int .i64 0, .bool false, .int .i64 0], .bool false]) (by simp [results, Tryd.results15, go_sem, q40, q41, q42, q43]) rfl ⟨?_, (by repeat (first | (with_reducible exact hbw) | (with_reducible refine Below.drew ?_) | (with_reducible refine below_drewN ?_ _) | (with_reducible refine Below.setCell ?_ ?_ _; rotate_left; (first | omega | (simp <;> omega))) | (with_reducible refine Below.alloc ?_ ?_ _; rotate_left; (first | omega | (simp <;> omega)))))⟩
      rw [HW.out]
      rfl
end Go.Proofs.YtfhpniafkkgibaaDoor
