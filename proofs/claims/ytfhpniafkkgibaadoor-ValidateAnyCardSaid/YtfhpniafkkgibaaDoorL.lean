/- The first error of a task: the program. -/
import Derived.Test.YtfhpniafkkgibaaDoorK
import Derived.Test.YtfhpniafkkgibaaDoorM
import Derived.Deep.DeepCutAuto
import Derived.Deep.DeepMust
import Derived.Deep.MidRow
import Derived.Deep.WholeRow
namespace Go.Proofs.YtfhpniafkkgibaaDoor
open Go.RowKit

/-- A task in a box. -/
def TaAt (w : World) (b : Nat) (t : Ta) : Prop := ∀ (j : Nat) (v : Value), t.cells[j]? = some v → w.cell? ⟨b, j, none⟩ = some v
theorem ta_agg : (Tryd.prog.info? 34).map (·.size) = some 48 := by kernel_rfl
theorem wpList_load_ta {ops : Array Oper} {rest : List Oper} {op : Oper} {a : Act} {w : World} {Q : Exit → Act → World → Prop} (hgd : op.guard = none) (x : Operand) (ho : op.op = .load 34 x)
    {b : Nat} {t : Ta} (hx : a.eval x = .pointer (some ⟨b, 0, none⟩)) (hc : TaAt w b t) (h : wpList Tryd.prog ops Q rest (a.put op.dst (.agg t.cells.toArray)) w) : wpList Tryd.prog ops Q (op :: rest) a w :=
  wpList_load_mid hgd _ x ho b 0 hx t.cells _ (fun j v hv => by rw [Nat.zero_add]; exact hc j v hv) Tryd.underlying34 rfl (by rw [t.size]; exact ta_agg) h

/-- The errors of a task. -/
inductive Er where
  | ok | state | wrong | write
def ErrA : Er → Value → Prop
  | .ok, v => v = .nilIface
  | .state, v => v = .iface 62 (.string sState)
  | .write, v => v = .iface 62 (.string sWrite)
  | .wrong, v => ∃ g, v = .iface 52 (.pointer (some ⟨g, 0, none⟩))
def badD (L : List PO) (d : Dl) : Bool := !(readB d.id d.field L) || (readD d.id d.field L).ref
def badW (L : List PO) (ns : List Ob) (c : Cl) : Bool := !(readB c.id c.field L) && !(ns.any fun x => x.id == c.id)
def allP (L : List PO) (st : Int) (rs : List Cl) (ds : List Dl) (ws : List Cl) (ns : List Ob) : Er :=
  if st ≠ 2 ∧ st ≠ 3 then .state
  else if (wrongP L rs).isSome = true then .wrong
  else if ds.any (badD L) = true then .wrong
  else if ws.any (badW L ns) = true then .write
  else if ns.any (fun o => getB o.id L) = true then .write
  else .ok
theorem any_at {α : Type} {p : α → Bool} {l : List α} {k : Nat} {x : α} (h : l[k]? = some x) (hp : p x = true) : l.any p = true := List.any_eq_true.2 ⟨x, List.mem_of_getElem? h, hp⟩
theorem any_no {α : Type} {p : α → Bool} {l : List α} (h : ∀ (i : Nat) (x : α), l[i]? = some x → p x = false) : l.any p = false := by
  rw [List.any_eq_false]
  intro y hy
  obtain ⟨j, hj⟩ := List.getElem?_of_mem hy
  simp [h j y hj]

set_option maxRecDepth 100000 in
set_option maxHeartbeats 4000000 in
theorem all_any (A : Option Addr) (n c : Nat) (l : List Ob) (t : Ta) (rs ws : List Cl) (ds : List Dl) (ns : List Ob) (w : World) (hs : Hp w w.heap.size A n l) (hn : n ≤ 9000000000000)
    (hr : Sl w w.heap.size 4 Cl.cells t.rd.A t.rd.n rs) (hm : t.rd.n ≤ 900000) (hd : Sl w w.heap.size 5 Dl.cells t.dl.A t.dl.n ds) (hdm : t.dl.n ≤ 900000)
    (hw : Sl w w.heap.size 4 Cl.cells t.wt.A t.wt.n ws) (hwm : t.wt.n ≤ 900000) (hq : Sl w w.heap.size 2 Ob.cells t.nw.A t.nw.n ns) (hqm : t.nw.n ≤ 900000) :
    Calls Tryd.prog 16 #[.agg #[.slice A n c], .agg t.cells.toArray] w fun e w' => (∃ v, e = .returned v ∧ ErrA (allP (l.map Ob.po) t.status rs ds ws ns) v) ∧ Below w.heap.size w w' := by
  have HS := Lib.hid hs
  have HR := Lib.hid hr
  have HD := Lib.hid hd
  have HW := Lib.hid hw
  have HN := Lib.hid hq
  clear hs hr hd hw hq
  obtain ⟨W, hW⟩ : ∃ W, W = (w.alloc (.cells #[.slice A n c] 24)).alloc (.cells t.cells.toArray 34) := ⟨_, rfl⟩
  have hWb : Below w.heap.size w W := by rw [hW]; exact (by repeat (first | (with_reducible exact (Below.refl _ _)) | (with_reducible refine Below.drew ?_) | (with_reducible refine below_drewN ?_ _) | (with_reducible refine Below.setCell ?_ ?_ _; rotate_left; (first | omega | (simp <;> omega))) | (with_reducible refine Below.alloc ?_ ?_ _; rotate_left; (first | omega | (simp <;> omega)))))
  have hWz : W.heap.size = w.heap.size + 2 := by rw [hW]; simp
  have q2 : W.cell? ⟨w.heap.size, 0, none⟩ = some (.slice A n c) := (by rw [hW, cell_old _ _ _ _ (by simp <;> omega), cell_new _ _ _ _ _ (by simp <;> omega)]; rfl)
  have qt : TaAt W (w.heap.size + 1) t := fun j v hv => by rw [hW, cell_new _ _ _ _ _ (by simp), List.getElem?_toArray, hv]
  have HQ := Lib.hid q2
  have HT := Lib.hid qt
  have HB := Lib.hid hWb
  have HZ := Lib.hid hWz
  have q42 := qt 42 _ t.c42
  have q38 : W.cell? ⟨w.heap.size + 1, 38, none⟩ = some (.slice t.wt.A t.wt.n t.wt.c) := qt 38 _ t.c38
  have q39 : W.cell? ⟨w.heap.size + 1, 39, none⟩ = some (.slice t.nw.A t.nw.n t.nw.c) := qt 39 _ t.c39
  have q40 : W.cell? ⟨w.heap.size + 1, 40, none⟩ = some (.slice t.dl.A t.dl.n t.dl.c) := qt 40 _ t.c40
  obtain ⟨st, hst⟩ : ∃ st, st = t.status := ⟨_, rfl⟩
  rw [← hst] at q42 ⊢
  clear qt hWb hst
  have HSW := Lib.hid (HS.out.up HB.out)
  have HRW := Lib.hid (HR.out.up HB.out)
  go_enter Tryd.func16, Tryd.ntmps16
  obtain ⟨b, hb⟩ : ∃ b : Bool, b = decide (st ≠ 2 ∧ st ≠ 3) := ⟨_, rfl⟩
  have HST := Lib.hid hb
  clear hb
  go_upto_region 1 with fail
  rw [← hW]
  clear hW
  go_cut [25] (fun s wx => s = .bool b ∧ wx = W)
  case first =>
    by_cases h2 : st = 2
    · subst h2
      go_wp2
      go_meet
      exact ⟨by rw [HST.out]; simp, rfl⟩
    · have g2 : (st != 2) = true := by simpa using h2
      go_wp2
      go_meet
      exact ⟨by rw [HST.out]; by_cases h3 : st = 3 <;> simp [h2, h3], rfl⟩
  case rest =>
    obtain ⟨rfl, e⟩ := hcut
    have e := e.symm
    subst e
    cases b
    · go_wp2_with (first | (with_reducible refine wpList_load_ta rfl (.tmp 3) rfl (by simp [Act.eval, Act.put]) HT.out ?_))
      refine (reads_any A n c l t t.rd.n rfl rs W HSW.out hn HRW.out hm).mono ?_
      rintro e w1 ⟨⟨v, rfl, hv⟩, hb1⟩
      have hz1 := hb1.size
      have HB1 := Lib.hid (HB.out.trans (hb1.mono HB.out.size))
      have q2 := (belc hb1 (b := w.heap.size) (o := 0) (by omega)).trans q2
      have q38 := (belc hb1 (b := w.heap.size + 1) (o := 38) (by omega)).trans q38
      have q39 := (belc hb1 (b := w.heap.size + 1) (o := 39) (by omega)).trans q39
      have q40 := (belc hb1 (b := w.heap.size + 1) (o := 40) (by omega)).trans q40
      have hlr1 : w.heap.size + 1 < w1.heap.size := by omega
      cases hwr : wrongP (l.map Ob.po) rs with
      | some x =>
        rw [hwr] at hv
        obtain ⟨g, rfl, _⟩ := hv
        have HP := Lib.hid (show allP (l.map Ob.po) st rs ds ws ns = .wrong from by
          unfold allP; rw [if_neg (by simpa using HST.out), if_pos (by rw [hwr]; rfl)])
        clear hwr
        go_wp2
        refine bodyPost_ret (v := .iface 52 (.pointer (some ⟨g, 0, none⟩))) (by simp [results, Tryd.results16, go_sem]) rfl ⟨⟨_, rfl, ?_⟩, HB1.out⟩
        rw [HP.out]
        exact ⟨g, rfl⟩
      | none =>
        rw [hwr] at hv
        obtain rfl : v = .nilIface := hv
        have HWN := Lib.hid hwr
        clear hwr hb1 q42
        have HBw1 := Lib.hid HB1.out
        go_wp2_with fail
        go_loopw [36] (fun i wr => ∃ k : Nat, k ≤ t.dl.n ∧ i = .int .i64 k ∧ Hid (∀ (i : Nat) (x : Dl), i < k → ds[i]? = some x → badD (l.map Ob.po) x = false) ∧ Below w1.heap.size w1 wr) (fun i _ => t.dl.n - (intOf i).toNat)
        case atStart => exact ⟨0, Nat.zero_le _, rfl, Lib.hid (fun i x h => absurd h (by omega)), Below.refl _ _⟩
        case round =>
          obtain ⟨k, hk, rfl, hno, hb⟩ := hrel
          have hzr := hb.size
          have hbw : Below w.heap.size w wr := HBw1.out.trans (hb.mono HBw1.out.size)
          have q2 := (belc hb (b := w.heap.size) (o := 0) (by omega)).trans q2
          have q38 := (belc hb (b := w.heap.size + 1) (o := 38) (by omega)).trans q38
          have q39 := (belc hb (b := w.heap.size + 1) (o := 39) (by omega)).trans q39
          have hlr : w.heap.size + 1 < wr.heap.size := by omega
          have hl0 : w.heap.size < wr.heap.size := by omega
          by_cases hlt : k < t.dl.n
          · obtain ⟨ab, ao, hAe, hlo, hat⟩ := HD.out.at_ (by omega)
            obtain ⟨x, hx⟩ : ∃ x, ds[k]? = some x := ⟨_, List.getElem?_eq_getElem (by rw [HD.out.len]; exact hlt)⟩
            have c0 : wr.cell? ⟨ab, ao + k * 5, none⟩ = some (.int .i64 x.id) := (belc hbw hlo).trans (hat k x hx 0 _ rfl)
            have c1 : wr.cell? ⟨ab, ao + k * 5 + 1, none⟩ = some (.int .i64 x.field) := (belc hbw hlo).trans (hat k x hx 1 _ rfl)
            have c2 : wr.cell? ⟨ab, ao + k * 5 + 2, none⟩ = some (.int .i64 x.op) := (belc hbw hlo).trans (hat k x hx 2 _ rfl)
            have c3 : wr.cell? ⟨ab, ao + k * 5 + 3, none⟩ = some (.bool x.ref) := (belc hbw hlo).trans (hat k x hx 3 _ rfl)
            have c4 : wr.cell? ⟨ab, ao + k * 5 + 4, none⟩ = some (.int .i64 x.n) := (belc hbw hlo).trans (hat k x hx 4 _ rfl)
            have HX := Lib.hid hx
            have HBW := Lib.hid hbw
            obtain ⟨V, hV⟩ : ∃ V, V = wr.alloc (.cells #[.int .i64 x.id, .int .i64 x.field, .int .i64 x.op, .bool x.ref, .int .i64 x.n] 64) := ⟨_, rfl⟩
            have hbV : Below wr.heap.size wr V := by rw [hV]; exact (Below.refl _ _).alloc (Nat.le_refl _) _
            have hzV : V.heap.size = wr.heap.size + 1 := by rw [hV]; simp
            have v0 : V.cell? ⟨wr.heap.size, 0, none⟩ = some (.int .i64 x.id) := (by rw [hV, cell_new _ _ _ _ _ (by simp <;> omega)]; rfl)
            have v1 : V.cell? ⟨wr.heap.size, 1, none⟩ = some (.int .i64 x.field) := (by rw [hV, cell_new _ _ _ _ _ (by simp <;> omega)]; rfl)
            have v2 : V.cell? ⟨wr.heap.size, 2, none⟩ = some (.int .i64 x.op) := (by rw [hV, cell_new _ _ _ _ _ (by simp <;> omega)]; rfl)
            have v3 : V.cell? ⟨wr.heap.size, 3, none⟩ = some (.bool x.ref) := (by rw [hV, cell_new _ _ _ _ _ (by simp <;> omega)]; rfl)
            have v4 : V.cell? ⟨wr.heap.size, 4, none⟩ = some (.int .i64 x.n) := (by rw [hV, cell_new _ _ _ _ _ (by simp <;> omega)]; rfl)
            have HP := Lib.hid (HS.out.up (hbw.trans (hbV.mono (by omega))))
            have HBV := Lib.hid hbV
            have HBWV := Lib.hid (hbw.trans (hbV.mono hbw.size))
            have HZV := Lib.hid hzV
            have hlV : wr.heap.size < V.heap.size := by omega
            clear hat hx hbw hbV hzV
            rw [hAe]
            go_wp2_with fail
            rw [← hV]
            clear hV c0 c1 c2 c3 c4
            refine (read_any A n c l x.id x.field V HP.out hn).mono ?_
            rintro e w2 ⟨rfl, hb2⟩
            have hz2 := hb2.size
            have HB2 := Lib.hid (hb2.mono (Nat.le_of_lt hlV))
            have HBW2 := Lib.hid (HBWV.out.trans (hb2.mono HBWV.out.size))
            have HBL2 := Lib.hid (hb.trans ((HBV.out.mono hzr).trans (hb2.mono (by omega))))
            have q2 := (belc hb2 (b := w.heap.size) (o := 0) (by omega)).trans ((belc HBV.out (by omega)).trans q2)
            have q38 := (belc hb2 (b := w.heap.size + 1) (o := 38) (by omega)).trans ((belc HBV.out (by omega)).trans q38)
            have q39 := (belc hb2 (b := w.heap.size + 1) (o := 39) (by omega)).trans ((belc HBV.out (by omega)).trans q39)
            have v0 := (belc hb2 hlV).trans v0
            have v1 := (belc hb2 hlV).trans v1
            have hl2 : wr.heap.size < w2.heap.size := by omega
            have hlt2 : w.heap.size + 1 < w2.heap.size := by omega
            obtain ⟨rb, hrb⟩ : ∃ b, b = readB x.id x.field (l.map Ob.po) := ⟨_, rfl⟩
            obtain ⟨rv, hrv⟩ : ∃ v, v = readD x.id x.field (l.map Ob.po) := ⟨_, rfl⟩
            rw [← hrb, ← hrv]
            have HBC := Lib.hid (show badD (l.map Ob.po) x = (!rb || rv.ref) from by rw [hrb, hrv]; rfl)
            clear hrb hrv hb2 hb
            cases rb
            · have HPP := Lib.hid (show allP (l.map Ob.po) st rs ds ws ns = .wrong from by
                unfold allP; rw [if_neg (by simpa using HST.out), if_neg (by rw [HWN.out]; simp), if_pos (any_at HX.out (by rw [HBC.out]; simp))])
              go_wp2
              all_goals
                refine bodyPost_ret (v := .iface 52 (.pointer (some ⟨w2.heap.size + 1, 0, none⟩))) (by simp [results, Tryd.results16, go_sem]) rfl ⟨⟨_, rfl, ?_⟩, (by repeat (first | (with_reducible exact HBW2.out) | (with_reducible refine Below.drew ?_) | (with_reducible refine below_drewN ?_ _) | (with_reducible refine Below.setCell ?_ ?_ _; rotate_left; (first | omega | (simp <;> omega))) | (with_reducible refine Below.alloc ?_ ?_ _; rotate_left; (first | omega | (simp <;> omega)))))⟩
                rw [HPP.out]
                exact ⟨_, rfl⟩
            · cases hrr : rv.ref
              · have HOK := Lib.hid (show badD (l.map Ob.po) x = false from by rw [HBC.out, hrr]; rfl)
                go_wp2
                go_roundw
                case rel => exact ⟨k + 1, by omega, by go_num, Lib.hid (fun i y hi hy => by
                  by_cases hik : i = k
                  · subst hik; rw [HX.out] at hy; injection hy with hy; subst hy; exact HOK.out
                  · exact hno.out i y (by omega) hy), (by repeat (first | (with_reducible exact HBL2.out) | (with_reducible refine Below.drew ?_) | (with_reducible refine below_drewN ?_ _) | (with_reducible refine Below.setCell ?_ ?_ _; rotate_left; (first | omega | (simp <;> omega))) | (with_reducible refine Below.alloc ?_ ?_ _; rotate_left; (first | omega | (simp <;> omega)))))⟩
                case measure => simp [intOf]; omega

              · have HPP := Lib.hid (show allP (l.map Ob.po) st rs ds ws ns = .wrong from by
                  unfold allP; rw [if_neg (by simpa using HST.out), if_neg (by rw [HWN.out]; simp), if_pos (any_at HX.out (by rw [HBC.out, hrr]; rfl))])
                go_wp2
                all_goals
                  refine bodyPost_ret (v := .iface 52 (.pointer (some ⟨w2.heap.size + 1, 0, none⟩))) (by simp [results, Tryd.results16, go_sem]) rfl ⟨⟨_, rfl, ?_⟩, (by repeat (first | (with_reducible exact HBW2.out) | (with_reducible refine Below.drew ?_) | (with_reducible refine below_drewN ?_ _) | (with_reducible refine Below.setCell ?_ ?_ _; rotate_left; (first | omega | (simp <;> omega))) | (with_reducible refine Below.alloc ?_ ?_ _; rotate_left; (first | omega | (simp <;> omega)))))⟩
                  rw [HPP.out]
                  exact ⟨_, rfl⟩
          · obtain rfl : k = t.dl.n := by omega
            have HDN := Lib.hid (show ds.any (badD (l.map Ob.po)) = false from any_no fun i x hx => hno.out i x (by have := (List.getElem?_eq_some_iff.1 hx).1; rw [HD.out.len] at this; exact this) hx)
            have HBwr := Lib.hid hbw
            clear hbw hb hno
            obtain ⟨wa, hwa⟩ : ∃ wa, wa = wr := ⟨_, rfl⟩
            subst hwa
            have HBwa := Lib.hid HBwr.out
            clear HBwr
            go_wp2_with fail
            go_loopw [67] (fun i wr => ∃ k : Nat, k ≤ t.wt.n ∧ i = .int .i64 k ∧ Hid (∀ (i : Nat) (x : Cl), i < k → ws[i]? = some x → badW (l.map Ob.po) ns x = false) ∧ Below wa.heap.size wa wr) (fun i _ => t.wt.n - (intOf i).toNat)
            case atStart => exact ⟨0, Nat.zero_le _, rfl, Lib.hid (fun i x h => absurd h (by omega)), Below.refl _ _⟩
            case round =>
              obtain ⟨k, hk, rfl, hno, hb⟩ := hrel
              have hzr := hb.size
              have hbw : Below w.heap.size w wr := HBwa.out.trans (hb.mono HBwa.out.size)
              have q2 := (belc hb (b := w.heap.size) (o := 0) (by omega)).trans q2
              have q39 := (belc hb (b := w.heap.size + 1) (o := 39) (by omega)).trans q39
              have hlr : w.heap.size + 1 < wr.heap.size := by omega
              have hl0 : w.heap.size < wr.heap.size := by omega
              by_cases hlt : k < t.wt.n
              · obtain ⟨ab, ao, hAe, hlo, hat⟩ := HW.out.at_ (by omega)
                obtain ⟨x, hx⟩ : ∃ x, ws[k]? = some x := ⟨_, List.getElem?_eq_getElem (by rw [HW.out.len]; exact hlt)⟩
                have c0 : wr.cell? ⟨ab, ao + k * 4, none⟩ = some (.int .i64 x.id) := (belc hbw hlo).trans (hat k x hx 0 _ rfl)
                have c1 : wr.cell? ⟨ab, ao + k * 4 + 1, none⟩ = some (.int .i64 x.field) := (belc hbw hlo).trans (hat k x hx 1 _ rfl)
                have c2 : wr.cell? ⟨ab, ao + k * 4 + 2, none⟩ = some (.bool x.ref) := (belc hbw hlo).trans (hat k x hx 2 _ rfl)
                have c3 : wr.cell? ⟨ab, ao + k * 4 + 3, none⟩ = some (.int .i64 x.n) := (belc hbw hlo).trans (hat k x hx 3 _ rfl)
                have HX := Lib.hid hx
                have HBW := Lib.hid hbw
                obtain ⟨V, hV⟩ : ∃ V, V = wr.alloc (.cells #[.int .i64 x.id, .int .i64 x.field, .bool x.ref, .int .i64 x.n] 42) := ⟨_, rfl⟩
                have hbV : Below wr.heap.size wr V := by rw [hV]; exact (Below.refl _ _).alloc (Nat.le_refl _) _
                have hzV : V.heap.size = wr.heap.size + 1 := by rw [hV]; simp
                have v0 : V.cell? ⟨wr.heap.size, 0, none⟩ = some (.int .i64 x.id) := (by rw [hV, cell_new _ _ _ _ _ (by simp <;> omega)]; rfl)
                have v1 : V.cell? ⟨wr.heap.size, 1, none⟩ = some (.int .i64 x.field) := (by rw [hV, cell_new _ _ _ _ _ (by simp <;> omega)]; rfl)
                have v2 : V.cell? ⟨wr.heap.size, 2, none⟩ = some (.bool x.ref) := (by rw [hV, cell_new _ _ _ _ _ (by simp <;> omega)]; rfl)
                have v3 : V.cell? ⟨wr.heap.size, 3, none⟩ = some (.int .i64 x.n) := (by rw [hV, cell_new _ _ _ _ _ (by simp <;> omega)]; rfl)
                have HP := Lib.hid (HS.out.up (hbw.trans (hbV.mono (by omega))))
                have HBV := Lib.hid hbV
                have HBWV := Lib.hid (hbw.trans (hbV.mono hbw.size))
                have HZV := Lib.hid hzV
                have hlV : wr.heap.size < V.heap.size := by omega
                clear hat hx hbw hbV hzV
                rw [hAe]
                go_wp2_with fail
                rw [← hV]
                clear hV c0 c1 c2 c3
                refine (read_any A n c l x.id x.field V HP.out hn).mono ?_
                rintro e w2 ⟨rfl, hb2⟩
                have hz2 := hb2.size
                have HB2 := Lib.hid (hb2.mono (Nat.le_of_lt hlV))
                have HBW2 := Lib.hid (HBWV.out.trans (hb2.mono HBWV.out.size))
                have HBL2 := Lib.hid (hb.trans ((HBV.out.mono hzr).trans (hb2.mono (by omega))))
                have q2 := (belc hb2 (b := w.heap.size) (o := 0) (by omega)).trans ((belc HBV.out (by omega)).trans q2)
                have q39 := (belc hb2 (b := w.heap.size + 1) (o := 39) (by omega)).trans ((belc HBV.out (by omega)).trans q39)
                have v0 := (belc hb2 hlV).trans v0
                have v1 := (belc hb2 hlV).trans v1
                have hl2 : wr.heap.size < w2.heap.size := by omega
                have hlt2 : w.heap.size + 1 < w2.heap.size := by omega
                obtain ⟨rb, hrb⟩ : ∃ b, b = readB x.id x.field (l.map Ob.po) := ⟨_, rfl⟩
                obtain ⟨rv, hrv⟩ : ∃ v, v = readD x.id x.field (l.map Ob.po) := ⟨_, rfl⟩
                rw [← hrb, ← hrv]
                have HBC := Lib.hid (show badW (l.map Ob.po) ns x = (!rb && !(ns.any fun y => y.id == x.id)) from by rw [hrb]; rfl)
                clear hrb hrv hb2 hb
                cases rb
                · obtain ⟨U, hU⟩ : ∃ U, U = w2.alloc (.cells #[.bool rv.ref, .int .i64 rv.n] 26) := ⟨_, rfl⟩
                  have hbU : Below w2.heap.size w2 U := by rw [hU]; exact (Below.refl _ _).alloc (Nat.le_refl _) _
                  have HBWU := Lib.hid (HBW2.out.trans (hbU.mono HBW2.out.size))
                  have HBLU := Lib.hid (HBL2.out.trans (hbU.mono HBL2.out.size))
                  have q39' := (belc hbU (b := w.heap.size + 1) (o := 39) (by omega)).trans q39
                  have HV0 := Lib.hid ((belc hbU (b := wr.heap.size) (o := 0) (by omega)).trans v0)
                  have hlU : wr.heap.size < U.heap.size := by have := hbU.size; omega
                  clear hbU
                  go_wp2_with fail
                  rw [← hU]
                  refine (contains_any t.nw.A t.nw.n t.nw.c ns wr.heap.size x.id U (HN.out.up HBWU.out) hqm hlU HV0.out).mono ?_
                  rintro e w3 ⟨rfl, hb3⟩
                  clear hU
                  have HBW3 := Lib.hid (HBWU.out.trans (hb3.mono HBWU.out.size))
                  have HBL3 := Lib.hid (HBLU.out.trans (hb3.mono HBLU.out.size))
                  cases hany : ns.any fun y => y.id == x.id
                  · have HPP := Lib.hid (show allP (l.map Ob.po) st rs ds ws ns = .write from by
                      unfold allP; rw [if_neg (by simpa using HST.out), if_neg (by rw [HWN.out]; simp), if_neg (by rw [HDN.out]; simp), if_pos (any_at HX.out (by rw [HBC.out, hany]; rfl))])
                    go_wp2
                    all_goals
                      refine bodyPost_ret (v := .iface 62 (.string sWrite)) (by simp [results, Tryd.results16, go_sem]; rfl) rfl ⟨⟨_, rfl, ?_⟩, (by repeat (first | (with_reducible exact HBW3.out) | (with_reducible refine Below.drew ?_) | (with_reducible refine below_drewN ?_ _) | (with_reducible refine Below.setCell ?_ ?_ _; rotate_left; (first | omega | (simp <;> omega))) | (with_reducible refine Below.alloc ?_ ?_ _; rotate_left; (first | omega | (simp <;> omega)))))⟩
                      rw [HPP.out]
                      rfl
                  · have HOK := Lib.hid (show badW (l.map Ob.po) ns x = false from by rw [HBC.out, hany]; rfl)
                    go_wp2
                    go_roundw
                    case rel => exact ⟨k + 1, by omega, by go_num, Lib.hid (fun i y hi hy => by
                      by_cases hik : i = k
                      · subst hik; rw [HX.out] at hy; injection hy with hy; subst hy; exact HOK.out
                      · exact hno.out i y (by omega) hy), (by repeat (first | (with_reducible exact HBL3.out) | (with_reducible refine Below.drew ?_) | (with_reducible refine below_drewN ?_ _) | (with_reducible refine Below.setCell ?_ ?_ _; rotate_left; (first | omega | (simp <;> omega))) | (with_reducible refine Below.alloc ?_ ?_ _; rotate_left; (first | omega | (simp <;> omega)))))⟩
                    case measure => simp [intOf]; omega

                · have HOK := Lib.hid (show badW (l.map Ob.po) ns x = false from by rw [HBC.out]; rfl)
                  go_wp2
                  go_roundw
                  case rel => exact ⟨k + 1, by omega, by go_num, Lib.hid (fun i y hi hy => by
                    by_cases hik : i = k
                    · subst hik; rw [HX.out] at hy; injection hy with hy; subst hy; exact HOK.out
                    · exact hno.out i y (by omega) hy), (by repeat (first | (with_reducible exact HBL2.out) | (with_reducible refine Below.drew ?_) | (with_reducible refine below_drewN ?_ _) | (with_reducible refine Below.setCell ?_ ?_ _; rotate_left; (first | omega | (simp <;> omega))) | (with_reducible refine Below.alloc ?_ ?_ _; rotate_left; (first | omega | (simp <;> omega)))))⟩
                  case measure => simp [intOf]; omega

              · obtain rfl : k = t.wt.n := by omega
                have HWW := Lib.hid (show ws.any (badW (l.map Ob.po) ns) = false from any_no fun i x hx => hno.out i x (by have := (List.getElem?_eq_some_iff.1 hx).1; rw [HW.out.len] at this; exact this) hx)
                have HBwr := Lib.hid hbw
                clear hbw hb hno
                obtain ⟨wb, hwb⟩ : ∃ wb, wb = wr := ⟨_, rfl⟩
                subst hwb
                have HBwb := Lib.hid HBwr.out
                clear HBwr
                go_wp2_with fail
                go_loopw [94] (fun i wr => ∃ k : Nat, k ≤ t.nw.n ∧ i = .int .i64 k ∧ Hid (∀ (i : Nat) (x : Ob), i < k → ns[i]? = some x → (fun o => getB o.id (l.map Ob.po)) x = false) ∧ Below wb.heap.size wb wr) (fun i _ => t.nw.n - (intOf i).toNat)
                case atStart => exact ⟨0, Nat.zero_le _, rfl, Lib.hid (fun i x h => absurd h (by omega)), Below.refl _ _⟩
                case round =>
                  obtain ⟨k, hk, rfl, hno, hb⟩ := hrel
                  have hzr := hb.size
                  have hbw : Below w.heap.size w wr := HBwb.out.trans (hb.mono HBwb.out.size)
                  have q2 := (belc hb (b := w.heap.size) (o := 0) (by omega)).trans q2
                  have hlr : w.heap.size + 1 < wr.heap.size := by omega
                  have hl0 : w.heap.size < wr.heap.size := by omega
                  by_cases hlt : k < t.nw.n
                  · obtain ⟨ab, ao, hAe, hlo, hat⟩ := HN.out.at_ (by omega)
                    obtain ⟨x, hx⟩ : ∃ x, ns[k]? = some x := ⟨_, List.getElem?_eq_getElem (by rw [HN.out.len]; exact hlt)⟩
                    have c0 : wr.cell? ⟨ab, ao + k * 2, none⟩ = some (.int .i64 x.id) := (belc hbw hlo).trans (hat k x hx 0 _ rfl)
                    have c1 : wr.cell? ⟨ab, ao + k * 2 + 1, none⟩ = some (.slice x.A x.n x.c) := (belc hbw hlo).trans (hat k x hx 1 _ rfl)
                    have HX := Lib.hid hx
                    have HBW := Lib.hid hbw
                    obtain ⟨V, hV⟩ : ∃ V, V = wr.alloc (.cells #[.int .i64 x.id, .slice x.A x.n x.c] 39) := ⟨_, rfl⟩
                    have hbV : Below wr.heap.size wr V := by rw [hV]; exact (Below.refl _ _).alloc (Nat.le_refl _) _
                    have hzV : V.heap.size = wr.heap.size + 1 := by rw [hV]; simp
                    have v0 : V.cell? ⟨wr.heap.size, 0, none⟩ = some (.int .i64 x.id) := (by rw [hV, cell_new _ _ _ _ _ (by simp <;> omega)]; rfl)
                    have v1 : V.cell? ⟨wr.heap.size, 1, none⟩ = some (.slice x.A x.n x.c) := (by rw [hV, cell_new _ _ _ _ _ (by simp <;> omega)]; rfl)
                    have HP := Lib.hid (HS.out.up (hbw.trans (hbV.mono (by omega))))
                    have HBV := Lib.hid hbV
                    have HBWV := Lib.hid (hbw.trans (hbV.mono hbw.size))
                    have HZV := Lib.hid hzV
                    have hlV : wr.heap.size < V.heap.size := by omega
                    clear hat hx hbw hbV hzV
                    rw [hAe]
                    go_wp2_with fail
                    rw [← hV]
                    clear hV c0 c1
                    refine (get_any A n c l x.id V HP.out hn).mono ?_
                    rintro e w2 ⟨A2, n2, c2, rfl, hn2, hs2, hA2, hb2⟩
                    have hz2 := hb2.size
                    have HBW2 := Lib.hid (HBWV.out.trans (hb2.mono HBWV.out.size))
                    have HBL2 := Lib.hid (hb.trans ((HBV.out.mono hzr).trans (hb2.mono (by omega))))
                    have q2 := (belc hb2 (b := w.heap.size) (o := 0) (by omega)).trans ((belc HBV.out (by omega)).trans q2)
                    clear hb2 hb
                    cases hgb : getB x.id (l.map Ob.po)
                    · have HOK := Lib.hid hgb
                      go_wp2
                      go_roundw
                      case rel => exact ⟨k + 1, by omega, by go_num, Lib.hid (fun i y hi hy => by
                        by_cases hik : i = k
                        · subst hik; rw [HX.out] at hy; injection hy with hy; subst hy; exact HOK.out
                        · exact hno.out i y (by omega) hy), (by repeat (first | (with_reducible exact HBL2.out) | (with_reducible refine Below.drew ?_) | (with_reducible refine below_drewN ?_ _) | (with_reducible refine Below.setCell ?_ ?_ _; rotate_left; (first | omega | (simp <;> omega))) | (with_reducible refine Below.alloc ?_ ?_ _; rotate_left; (first | omega | (simp <;> omega)))))⟩
                      case measure => simp [intOf]; omega

                    · have HPP := Lib.hid (show allP (l.map Ob.po) st rs ds ws ns = .write from by
                        unfold allP; rw [if_neg (by simpa using HST.out), if_neg (by rw [HWN.out]; simp), if_neg (by rw [HDN.out]; simp), if_neg (by rw [HWW.out]; simp), if_pos (any_at HX.out hgb)])
                      go_wp2
                      all_goals
                        refine bodyPost_ret (v := .iface 62 (.string sWrite)) (by simp [results, Tryd.results16, go_sem]; rfl) rfl ⟨⟨_, rfl, ?_⟩, (by repeat (first | (with_reducible exact HBW2.out) | (with_reducible refine Below.drew ?_) | (with_reducible refine below_drewN ?_ _) | (with_reducible refine Below.setCell ?_ ?_ _; rotate_left; (first | omega | (simp <;> omega))) | (with_reducible refine Below.alloc ?_ ?_ _; rotate_left; (first | omega | (simp <;> omega)))))⟩
                        rw [HPP.out]
                        rfl
                  · obtain rfl : k = t.nw.n := by omega
                    have HNN := Lib.hid (show ns.any ((fun o => getB o.id (l.map Ob.po))) = false from any_no fun i x hx => hno.out i x (by have := (List.getElem?_eq_some_iff.1 hx).1; rw [HN.out.len] at this; exact this) hx)
                    have HBwr := Lib.hid hbw
                    clear hbw hb hno
                    have HPP := Lib.hid (show allP (l.map Ob.po) st rs ds ws ns = .ok from by
                      unfold allP; rw [if_neg (by simpa using HST.out), if_neg (by rw [HWN.out]; simp), if_neg (by rw [HDN.out]; simp), if_neg (by rw [HWW.out]; simp), if_neg (by rw [HNN.out]; simp)])
                    go_wp2
                    refine bodyPost_ret (v := .nilIface) (by simp [results, Tryd.results16, go_sem]) rfl ⟨⟨_, rfl, ?_⟩, HBwr.out⟩
                    rw [HPP.out]
                    rfl
    · have HP := Lib.hid (show allP (l.map Ob.po) st rs ds ws ns = .state from by unfold allP; rw [if_pos (by simpa using HST.out)])
      go_wp2
      refine bodyPost_ret (v := .iface 62 (.string sState)) (by simp [results, Tryd.results16, go_sem]; rfl) rfl ⟨⟨_, rfl, ?_⟩, HB.out⟩
      rw [HP.out]
      rfl
end Go.Proofs.YtfhpniafkkgibaaDoor
