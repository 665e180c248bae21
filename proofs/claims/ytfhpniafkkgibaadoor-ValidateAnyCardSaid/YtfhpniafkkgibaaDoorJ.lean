/- The first cell that is wrong: the program. -/
import Derived.Test.YtfhpniafkkgibaaDoorI
namespace Go.Proofs.YtfhpniafkkgibaaDoor
open Go.RowKit

/-- The error of a cell that is wrong; none: nil. -/
def ErrC (o : Option Cl) (w w' : World) (v : Value) : Prop := match o with
  | none => v = .nilIface
  | some x => ∃ g, v = .iface 52 (.pointer (some ⟨g, 0, none⟩)) ∧ w.heap.size ≤ g ∧ g < w'.heap.size ∧ w'.cell? ⟨g, 0, none⟩ = some (.int .i64 x.id) ∧ w'.cell? ⟨g, 1, none⟩ = some (.int .i64 x.field) ∧ w'.cell? ⟨g, 2, none⟩ = some (.bool x.ref) ∧ w'.cell? ⟨g, 3, none⟩ = some (.int .i64 x.n)

set_option maxRecDepth 100000 in
set_option maxHeartbeats 2000000 in
theorem reads_any (A : Option Addr) (n c : Nat) (l : List Ob) (t : Ta) (m : Nat) (hme : t.rd.n = m) (cs : List Cl) (w : World) (hs : Hp w w.heap.size A n l) (hn : n ≤ 9000000000000) (hc : Sl w w.heap.size 4 Cl.cells t.rd.A m cs) (hm : m ≤ 900000) :
    Calls Tryd.prog 14 #[.agg #[.slice A n c], .agg t.cells.toArray] w fun e w' => (∃ v, e = .returned v ∧ ErrC (wrongP (l.map Ob.po) cs) w w' v) ∧ Below w.heap.size w w' := by
  obtain ⟨B, hB⟩ : ∃ B, B = t.rd.A := ⟨_, rfl⟩
  obtain ⟨d, hd⟩ : ∃ d, d = t.rd.c := ⟨_, rfl⟩
  rw [← hB] at hc
  have t37 : t.cells[37]? = some (.slice B m d) := by rw [t.c37, hB, hd, ← hme]; rfl
  clear hB hd hme
  have HS := Lib.hid hs
  have HL := Lib.hid hc.len
  obtain ⟨W, hW⟩ : ∃ W, W = (w.alloc (.cells #[.slice A n c] 24)).alloc (.cells t.cells.toArray 34) := ⟨_, rfl⟩
  have hWb : Below w.heap.size w W := by rw [hW]; exact (by repeat (first | (with_reducible exact (Below.refl _ _)) | (with_reducible refine Below.drew ?_) | (with_reducible refine below_drewN ?_ _) | (with_reducible refine Below.setCell ?_ ?_ _; rotate_left; (first | omega | (simp <;> omega))) | (with_reducible refine Below.alloc ?_ ?_ _; rotate_left; (first | omega | (simp <;> omega)))))
  have hWz : W.heap.size = w.heap.size + 2 := by rw [hW]; simp
  have q2 : W.cell? ⟨w.heap.size, 0, none⟩ = some (.slice A n c) := (by rw [hW, cell_old _ _ _ _ (by simp <;> omega), cell_new _ _ _ _ _ (by simp <;> omega)]; rfl)
  have HQ := Lib.hid q2
  have HB := Lib.hid hWb
  have HZ := Lib.hid hWz
  clear q2 hWb hWz
  go_enter Tryd.func14, Tryd.ntmps14
  go_wp2_with fail
  rw [← hW]
  clear hW t37
  go_loopw [12] (fun i wr => ∃ k : Nat, k ≤ m ∧ i = .int .i64 k ∧ Hid (∀ (i : Nat) (x : Cl), i < k → cs[i]? = some x → badC (l.map Ob.po) x = false) ∧ Below W.heap.size W wr) (fun i _ => m - (intOf i).toNat)
  case atStart => exact ⟨0, Nat.zero_le _, rfl, Lib.hid (fun i x h => absurd h (by omega)), Below.refl _ _⟩
  case round =>
    obtain ⟨k, hk, rfl, hno, hb⟩ := hrel
    have hz := HZ.out
    have hzr := hb.size
    have r2 := (belc hb (by omega)).trans HQ.out
    have hbw : Below w.heap.size w wr := HB.out.trans (hb.mono (by omega))
    by_cases hlt : k < m
    · obtain ⟨ab, ao, rfl, hlo, hat⟩ := hc.at_ (by omega)
      obtain ⟨x, hx⟩ : ∃ x, cs[k]? = some x := ⟨_, List.getElem?_eq_getElem (by rw [HL.out]; exact hlt)⟩
      have c0 : wr.cell? ⟨ab, ao + k * 4, none⟩ = some (.int .i64 x.id) := (belc hbw hlo).trans (hat k x hx 0 _ rfl)
      have c1 : wr.cell? ⟨ab, ao + k * 4 + 1, none⟩ = some (.int .i64 x.field) := (belc hbw hlo).trans (hat k x hx 1 _ rfl)
      have c2 : wr.cell? ⟨ab, ao + k * 4 + 2, none⟩ = some (.bool x.ref) := (belc hbw hlo).trans (hat k x hx 2 _ rfl)
      have c3 : wr.cell? ⟨ab, ao + k * 4 + 3, none⟩ = some (.int .i64 x.n) := (belc hbw hlo).trans (hat k x hx 3 _ rfl)
      have HX := Lib.hid hx
      have HBW := Lib.hid hbw
      have hl2 : w.heap.size < wr.heap.size := by omega
      obtain ⟨V, hV⟩ : ∃ V, V = wr.alloc (.cells #[.int .i64 x.id, .int .i64 x.field, .bool x.ref, .int .i64 x.n] 42) := ⟨_, rfl⟩
      have hbV : Below wr.heap.size wr V := by rw [hV]; exact (Below.refl _ _).alloc (Nat.le_refl _) _
      have hzV : V.heap.size = wr.heap.size + 1 := by rw [hV]; simp
      have v0 : V.cell? ⟨wr.heap.size, 0, none⟩ = some (.int .i64 x.id) := (by rw [hV, cell_new _ _ _ _ _ (by simp <;> omega)]; rfl)
      have v1 : V.cell? ⟨wr.heap.size, 1, none⟩ = some (.int .i64 x.field) := (by rw [hV, cell_new _ _ _ _ _ (by simp <;> omega)]; rfl)
      have v2 : V.cell? ⟨wr.heap.size, 2, none⟩ = some (.bool x.ref) := (by rw [hV, cell_new _ _ _ _ _ (by simp <;> omega)]; rfl)
      have v3 : V.cell? ⟨wr.heap.size, 3, none⟩ = some (.int .i64 x.n) := (by rw [hV, cell_new _ _ _ _ _ (by simp <;> omega)]; rfl)
      have HP := Lib.hid (HS.out.up (hbw.trans (hbV.mono (by omega))))
      have HBV := Lib.hid hbV
      have HZV := Lib.hid hzV
      have hlV : wr.heap.size < V.heap.size := by omega
      clear hat hx hz hbw hbV hzV
      go_wp2_with fail
      rw [← hV]
      clear hV c0 c1 c2 c3
      refine (read_any A n c l x.id x.field V HP.out hn).mono ?_
      rintro e w1 ⟨rfl, hb1⟩
      have r2 := (belc hb1 (by omega)).trans ((belc HBV.out hl2).trans r2)
      have v0 := (belc hb1 hlV).trans v0
      have v1 := (belc hb1 hlV).trans v1
      have v2 := (belc hb1 hlV).trans v2
      have v3 := (belc hb1 hlV).trans v3
      have HB1 := Lib.hid (show Below W.heap.size W w1 from hb.trans ((HBV.out.mono hzr).trans (hb1.mono (by omega))))
      have HBW1 := Lib.hid (HBW.out.trans ((HBV.out.mono HBW.out.size).trans (hb1.mono (by have := HBW.out.size; omega))))
      have hl1 : wr.heap.size < w1.heap.size := by have := hb1.size; omega
      obtain ⟨rb, hrb⟩ : ∃ b, b = readB x.id x.field (l.map Ob.po) := ⟨_, rfl⟩
      obtain ⟨rv, hrv⟩ : ∃ v, v = readD x.id x.field (l.map Ob.po) := ⟨_, rfl⟩
      rw [← hrb, ← hrv]
      have HBC := Lib.hid (show badC (l.map Ob.po) x = (!rb || rv.ref != x.ref || rv.n != x.n) from by rw [hrb, hrv]; rfl)
      clear hrb hrv hb1 hb
      cases rb
      · have HW := Lib.hid (show wrongP (l.map Ob.po) cs = some x from wrong_at HX.out (by rw [HBC.out]; simp) hno.out)
        go_wp2
        all_goals
          refine bodyPost_ret (v := .iface 52 (.pointer (some ⟨w1.heap.size + 1, 0, none⟩))) (by simp [results, Tryd.results14, go_sem]) rfl ⟨⟨_, rfl, ?_⟩, (by repeat (first | (with_reducible exact HBW1.out) | (with_reducible refine Below.drew ?_) | (with_reducible refine below_drewN ?_ _) | (with_reducible refine Below.setCell ?_ ?_ _; rotate_left; (first | omega | (simp <;> omega))) | (with_reducible refine Below.alloc ?_ ?_ _; rotate_left; (first | omega | (simp <;> omega)))))⟩
          rw [HW.out]
          exact ⟨_, rfl, by omega, by simp, by simp, by simp, by simp, by simp⟩
      · by_cases h1 : rv.ref = x.ref
        · by_cases h2 : rv.n = x.n
          · rw [h1, h2]
            have HOK := Lib.hid (show badC (l.map Ob.po) x = false from by rw [HBC.out, h1, h2]; simp)
            clear h1 h2
            go_wp2
            go_roundw
            case rel => exact ⟨k + 1, by omega, by go_num, Lib.hid (fun i y hi hy => by
              by_cases hik : i = k
              · subst hik; rw [HX.out] at hy; injection hy with hy; subst hy; exact HOK.out
              · exact hno.out i y (by omega) hy), (by repeat (first | (with_reducible exact HB1.out) | (with_reducible refine Below.drew ?_) | (with_reducible refine below_drewN ?_ _) | (with_reducible refine Below.setCell ?_ ?_ _; rotate_left; (first | omega | (simp <;> omega))) | (with_reducible refine Below.alloc ?_ ?_ _; rotate_left; (first | omega | (simp <;> omega)))))⟩
            case measure => simp [intOf]; omega
          · have HW := Lib.hid (show wrongP (l.map Ob.po) cs = some x from wrong_at HX.out (by rw [HBC.out]; simp [h2]) hno.out)
            have g1 : (rv.ref == x.ref) = true := by simp [h1]
            have g2 : (rv.n == x.n) = false := by simp [h2]
            go_wp2
            all_goals
              refine bodyPost_ret (v := .iface 52 (.pointer (some ⟨w1.heap.size + 1, 0, none⟩))) (by simp [results, Tryd.results14, go_sem]) rfl ⟨⟨_, rfl, ?_⟩, (by repeat (first | (with_reducible exact HBW1.out) | (with_reducible refine Below.drew ?_) | (with_reducible refine below_drewN ?_ _) | (with_reducible refine Below.setCell ?_ ?_ _; rotate_left; (first | omega | (simp <;> omega))) | (with_reducible refine Below.alloc ?_ ?_ _; rotate_left; (first | omega | (simp <;> omega)))))⟩
              rw [HW.out]
              exact ⟨_, rfl, by omega, by simp, by simp, by simp, by simp, by simp⟩
        · have HW := Lib.hid (show wrongP (l.map Ob.po) cs = some x from wrong_at HX.out (by rw [HBC.out]; simp [h1]) hno.out)
          have g1 : (rv.ref == x.ref) = false := by simp [h1]
          go_wp2
          all_goals
            refine bodyPost_ret (v := .iface 52 (.pointer (some ⟨w1.heap.size + 1, 0, none⟩))) (by simp [results, Tryd.results14, go_sem]) rfl ⟨⟨_, rfl, ?_⟩, (by repeat (first | (with_reducible exact HBW1.out) | (with_reducible refine Below.drew ?_) | (with_reducible refine below_drewN ?_ _) | (with_reducible refine Below.setCell ?_ ?_ _; rotate_left; (first | omega | (simp <;> omega))) | (with_reducible refine Below.alloc ?_ ?_ _; rotate_left; (first | omega | (simp <;> omega)))))⟩
            rw [HW.out]
            exact ⟨_, rfl, by omega, by simp, by simp, by simp, by simp, by simp⟩
    · obtain rfl : k = m := by omega
      have HW := Lib.hid (show wrongP (l.map Ob.po) cs = none from wrong_none fun i x hx => hno.out i x (by have := (List.getElem?_eq_some_iff.1 hx).1; rw [HL.out] at this; exact this) hx)
      go_wp2
      refine bodyPost_ret (v := .nilIface) (by simp [results, Tryd.results14, go_sem]) rfl ⟨⟨_, rfl, ?_⟩, (by repeat (first | (with_reducible exact hbw) | (with_reducible refine Below.drew ?_) | (with_reducible refine below_drewN ?_ _) | (with_reducible refine Below.setCell ?_ ?_ _; rotate_left; (first | omega | (simp <;> omega))) | (with_reducible refine Below.alloc ?_ ?_ _; rotate_left; (first | omega | (simp <;> omega)))))⟩
      rw [HW.out]
      rfl
end Go.Proofs.YtfhpniafkkgibaaDoor
