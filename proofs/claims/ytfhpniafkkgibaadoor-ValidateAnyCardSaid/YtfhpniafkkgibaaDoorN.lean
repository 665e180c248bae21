/- The first error of a task: the reference. -/
import Derived.Test.YtfhpniafkkgibaaDoorL
import Derived.Maps.OwnSet
import Derived.Maps.OwnOps
import Derived.Maps.Views
namespace Go.Proofs.YtfhpniafkkgibaaDoor
open Go.RowKit Go.Maps

def codeE : Er → Int
  | .ok => 0 | .state => 7 | .wrong => 14 | .write => 9
theorem all_new {L : List PO} {st : Int} {rs ws : List Cl} {ds : List Dl} {ns : List Ob} (h1 : ¬ (st ≠ 2 ∧ st ≠ 3)) (h2 : wrongP L rs = none) (h3 : ds.any (badD L) = false) (h4 : ns.any (fun o => getB o.id L) = true) : allP L st rs ds ws ns = .write := by
  unfold allP
  rw [if_neg h1, if_neg (by rw [h2]; simp), if_neg (by rw [h3]; simp)]
  split
  · rfl
  · first | rfl | rw [if_pos h4]

/-! ### A set of identifiers as a map that the call makes -/
theorem lawI : Keyed Tryd.prog 2 := int_keyed Tryd.underlying2
theorem zeroB (w : World) : (zeroValue 4).run Tryd.prog w = .ok (.bool false) w := by kernel_rfl
def IdMap (w : World) (b n : Nat) (S : Int → Bool) : Prop := ∃ D : DataW Unit, w.ownsMap Tryd.prog 2 (plainElem Tryd.prog 4) b n D ∧ ∀ x : Int, D.atKey (.int .i64 x) (.lit (.bool false)) = .lit (.bool (S x))
def ids (ns : List Ob) (k : Nat) (x : Int) : Bool := (ns.take k).any fun y => y.id == x
theorem IdMap.made (w : World) (ns : List Ob) : IdMap (w.alloc (.map #[] 0)) w.heap.size 0 (ids ns 0) := ⟨_, World.ownsMap_made w _ _ _, fun _ => rfl⟩
theorem IdMap.lt {w : World} {b n : Nat} {S : Int → Bool} (h : IdMap w b n S) : b < w.heap.size := by obtain ⟨D, h, _⟩ := h; exact h.lt
theorem IdMap.below {w w' : World} {b n : Nat} {S : Int → Bool} (h : IdMap w b n S) (hb : Below w.heap.size w w') : IdMap w' b n S := by
  obtain ⟨D, h, hS⟩ := h
  exact ⟨D, h.kept (grown_of_below hb none) (by simp), hS⟩
theorem IdMap.alloc {w : World} {b n : Nat} {S : Int → Bool} (h : IdMap w b n S) (o : Obj) : IdMap (w.alloc o) b n S := by
  obtain ⟨D, h, hS⟩ := h
  exact ⟨D, h.alloc o, hS⟩
theorem IdMap.congr {w : World} {b n : Nat} {S S' : Int → Bool} (h : IdMap w b n S) (e : ∀ x, S x = S' x) : IdMap w b n S' := by
  obtain ⟨D, h, hS⟩ := h
  exact ⟨D, h, fun x => by rw [hS x, e x]⟩
theorem ids_succ {ns : List Ob} {k : Nat} {y : Ob} (h : ns[k]? = some y) (x : Int) : (y.id == x || ids ns k x) = ids ns (k + 1) x := by
  unfold ids
  rw [List.take_add_one, h, List.any_append]
  simp [Bool.or_comm]
theorem ids_all {ns : List Ob} {k : Nat} (h : ns.length ≤ k) (x : Int) : ids ns k x = ns.any fun y => y.id == x := by
  unfold ids
  rw [List.take_of_length_le h]
set_option maxRecDepth 100000 in
theorem plainElem_bool_inv {v : Value} {z : DataW Unit × List MemPlace} (h : plainElem Tryd.prog 4 v = some z) : ∃ x, v = .bool x ∧ z.1 = .lit (.bool x) := by
  unfold plainElem at h
  rw [Tryd.underlying4] at h
  cases v <;> simp at h
  exact ⟨_, rfl, by rw [← h]⟩
set_option maxRecDepth 100000 in
theorem IdMap.look {w : World} {b n : Nat} {S : Int → Bool} (h : IdMap w b n S) {x : Int} (hx : (Lit.int .i64 x).wf = true) : (Instr.lookup 67 (.map (some b)) (.int .i64 x) false).run Tryd.prog w = .ok (.bool (S x)) w := by
  obtain ⟨D, h, hS⟩ := h
  obtain ⟨v, ps, hrun, hv⟩ := h.lookup lawI Tryd.underlying67 (zeroB w) (plainElem_bool Tryd.underlying4 false) (keyOf_int_mk Tryd.underlying2 hx)
  obtain ⟨y, rfl, hy⟩ := plainElem_bool_inv hv
  have e : (DataW.lit (.bool (S x)) : DataW Unit) = .lit (.bool y) := (hS x).symm.trans hy
  injection e with e
  injection e with e
  rw [hrun, e]
set_option maxRecDepth 100000 in
theorem IdMap.put {w : World} {b n : Nat} {S : Int → Bool} (h : IdMap w b n S) {ops : Array Oper} {rest : List Oper} {o : Oper} {a : Act} {Q : Exit → Act → World → Prop} {m x v : Operand}
    (hop : o.op = Op.mapUpdate 67 m x v) (hg : o.guard = none) (hn : n < maxLen) {k : Int} (hm : a.eval m = .map (some b)) (hx : a.eval x = .int .i64 k) (hv : a.eval v = .bool true) (hk : (Lit.int .i64 k).wf = true)
    (hK : ∀ w', IdMap w' b (n + 1) (fun y => k == y || S y) → w.grownBy w' (some b) → wpList Tryd.prog ops Q rest (a.put o.dst undef) w') : wpList Tryd.prog ops Q (o :: rest) a w := by
  obtain ⟨D, h, hS⟩ := h
  refine wpList_mapUpdate_own _ hg m x v _ hop 2 4 lawI Tryd.underlying67 _ b n D hm h hn _ _ _ hx hv (keyOf_int_mk Tryd.underlying2 hk) _ [] (plainElem_bool Tryd.underlying4 true) ?_
  intro w' h' hgr
  refine hK w' ⟨_, h', fun y => ?_⟩ hgr
  by_cases hy : y = k
  · subst hy
    rw [atKey_put_same h.isMap (by simp [WideAt.IsKeyLit])]
    simp
  · rw [atKey_put_other (by intro e; injection e with _ e; exact hy e), hS y]
    have e : (k == y) = false := by simpa using fun e => hy e.symm
    simp only [e, Bool.false_or]

set_option maxRecDepth 100000 in
set_option maxHeartbeats 4000000 in
theorem refcheck_any (A : Option Addr) (n c : Nat) (l : List Ob) (t : Ta) (rs ws : List Cl) (ds : List Dl) (ns : List Ob) (w : World) (hs : Hp w w.heap.size A n l) (hn : n ≤ 9000000000000)
    (hr : Sl w w.heap.size 4 Cl.cells t.rd.A t.rd.n rs) (hm : t.rd.n ≤ 900000) (hd : Sl w w.heap.size 5 Dl.cells t.dl.A t.dl.n ds) (hdm : t.dl.n ≤ 900000)
    (hw : Sl w w.heap.size 4 Cl.cells t.wt.A t.wt.n ws) (hwm : t.wt.n ≤ 900000) (hq : Sl w w.heap.size 2 Ob.cells t.nw.A t.nw.n ns) (hqm : t.nw.n ≤ 900000)
    (hnw : ∀ x ∈ ns, (Lit.int .i64 x.id).wf = true) (hwt : ∀ x ∈ ws, (Lit.int .i64 x.id).wf = true) :
    Calls Tryd.prog 9 #[.agg #[.slice A n c], .agg t.cells.toArray] w fun e w' => e = .returned (.int .i64 (codeE (allP (l.map Ob.po) t.status rs ds ws ns))) ∧ Below w.heap.size w w' := by
  have HS := Lib.hid hs
  have HR := Lib.hid hr
  have HD := Lib.hid hd
  have HW := Lib.hid hw
  have HN := Lib.hid hq
  clear hs hr hd hw hq
  obtain ⟨W, hW⟩ : ∃ W, W = (w.alloc (.cells #[.slice A n c] 24)).alloc (.cells t.cells.toArray 34) := ⟨_, rfl⟩
  have hWb : Below w.heap.size w W := by rw [hW]; exact (by repeat (first | (with_reducible exact (Below.refl _ _)) | (with_reducible refine Below.drew ?_) | (with_reducible refine below_drewN ?_ _) | (with_reducible refine Below.setCell ?_ ?_ _; rotate_left; (first | omega | (simp <;> omega))) | (with_reducible refine Below.alloc ?_ ?_ _; rotate_left; (first | omega | (simp <;> omega)))))
  have hWz : W.heap.size = w.heap.size + 2 := by rw [hW]; simp
  have q2 : W.cell? ⟨w.heap.size, 0, none⟩ = some (.slice A n c) := (by rw [hW, cell_old _ _ _ _ (by simp <;> omega), cell_new _ _ _ _ _ (by simp <;> omega)]; rfl)
  have qt : TaAt W (w.heap.size + 1) t := fun j v hv => by rw [hW, cell_new _ _ _ _ _ (by simp), List.getElem?_toArray, hv]
  have HT := Lib.hid qt
  have HB := Lib.hid hWb
  have q42 := qt 42 _ t.c42
  have q38 : W.cell? ⟨w.heap.size + 1, 38, none⟩ = some (.slice t.wt.A t.wt.n t.wt.c) := qt 38 _ t.c38
  have q39 : W.cell? ⟨w.heap.size + 1, 39, none⟩ = some (.slice t.nw.A t.nw.n t.nw.c) := qt 39 _ t.c39
  have q40 : W.cell? ⟨w.heap.size + 1, 40, none⟩ = some (.slice t.dl.A t.dl.n t.dl.c) := qt 40 _ t.c40
  obtain ⟨st, hst⟩ : ∃ st, st = t.status := ⟨_, rfl⟩
  rw [← hst] at q42 ⊢
  clear qt hWb hst
  have HSW := Lib.hid (HS.out.up HB.out)
  have HRW := Lib.hid (HR.out.up HB.out)
  go_enter Tryd.func9, Tryd.ntmps9
  obtain ⟨b, hb⟩ : ∃ b : Bool, b = decide (st ≠ 2 ∧ st ≠ 3) := ⟨_, rfl⟩
  have HST := Lib.hid hb
  clear hb
  go_upto_region 1 with fail
  rw [← hW]
  clear hW
  go_cut [27] (fun s wx => s = .bool b ∧ wx = W)
  case first =>
    by_cases h2 : st = 2
    · subst h2
      go_wp2
      go_meet
      exact ⟨by rw [HST.out]; simp, rfl⟩
    · have g2 : (st != 2) = true := by simpa using h2
      go_wp2
      go_meet
      exact ⟨by rw [HST.out]; by_cases h3 : st = 3 <;> simp [h2, h3], rfl⟩
  case rest =>
    obtain ⟨rfl, e⟩ := hcut
    have e := e.symm
    subst e
    cases b
    · go_wp2_with (first | (with_reducible refine wpList_load_ta rfl (.tmp 3) rfl (by simp [Act.eval, Act.put]) HT.out ?_))
      refine (refreads_any A n c l t rs W HSW.out hn HRW.out hm).mono ?_
      rintro e w1 ⟨rfl, hb1⟩
      have hz1 := hb1.size
      have HB1 := Lib.hid (HB.out.trans (hb1.mono HB.out.size))
      have q2 := (belc hb1 (b := w.heap.size) (o := 0) (by omega)).trans q2
      have q38 := (belc hb1 (b := w.heap.size + 1) (o := 38) (by omega)).trans q38
      have q39 := (belc hb1 (b := w.heap.size + 1) (o := 39) (by omega)).trans q39
      have q40 := (belc hb1 (b := w.heap.size + 1) (o := 40) (by omega)).trans q40
      have hlr1 : w.heap.size + 1 < w1.heap.size := by omega
      have hl01 : w.heap.size < w1.heap.size := by omega
      clear hb1 q42
      cases hwr : wrongP (l.map Ob.po) rs with
      | some x =>
        have HPP := Lib.hid (show codeE (allP (l.map Ob.po) st rs ds ws ns) = 14 from by
          unfold allP; rw [if_neg (by simpa using HST.out), if_pos (by rw [hwr]; rfl)]; rfl)
        clear hwr
        unfold outR Cl.cells
        go_wp2
        refine bodyPost_ret (v := .int .i64 14) (by simp [results, Tryd.results9, go_sem]) rfl ⟨?_, (by repeat (first | (with_reducible exact HB1.out) | (with_reducible refine Below.drew ?_) | (with_reducible refine below_drewN ?_ _) | (with_reducible refine Below.setCell ?_ ?_ _; rotate_left; (first | omega | (simp <;> omega))) | (with_reducible refine Below.alloc ?_ ?_ _; rotate_left; (first | omega | (simp <;> omega)))))⟩
        rw [HPP.out]
      | none =>
        have HWN := Lib.hid hwr
        clear hwr
        unfold outR
        obtain ⟨wz, hwz⟩ : ∃ wz, wz = w1.alloc (.cells #[.int .i64 0, .int .i64 0, .bool false, .int .i64 0] 42) := ⟨_, rfl⟩
        have hbz : Below w1.heap.size w1 wz := by rw [hwz]; exact (Below.refl _ _).alloc (Nat.le_refl _) _
        have HBwz := Lib.hid (HB1.out.trans (hbz.mono HB1.out.size))
        have q2 := (belc hbz (b := w.heap.size) (o := 0) (by omega)).trans q2
        have q38 := (belc hbz (b := w.heap.size + 1) (o := 38) (by omega)).trans q38
        have q39 := (belc hbz (b := w.heap.size + 1) (o := 39) (by omega)).trans q39
        have q40 := (belc hbz (b := w.heap.size + 1) (o := 40) (by omega)).trans q40
        have hlz : w.heap.size + 1 < wz.heap.size := by have := hbz.size; omega
        clear hbz
        go_upto_region 6 with fail
        rw [← hwz]
        clear hwz
        go_wp2_with fail
        go_loopw [39] (fun i wr => ∃ k : Nat, k ≤ t.dl.n ∧ i = .int .i64 k ∧ Hid (∀ (i : Nat) (x : Dl), i < k → ds[i]? = some x → badD (l.map Ob.po) x = false) ∧ Below wz.heap.size wz wr) (fun i _ => t.dl.n - (intOf i).toNat)
        case atStart => exact ⟨0, Nat.zero_le _, rfl, Lib.hid (fun i x h => absurd h (by omega)), Below.refl _ _⟩
        case round =>
          obtain ⟨k, hk, rfl, hno, hb⟩ := hrel
          have hzr := hb.size
          have hbw : Below w.heap.size w wr := HBwz.out.trans (hb.mono HBwz.out.size)
          have q2 := (belc hb (b := w.heap.size) (o := 0) (by omega)).trans q2
          have q38 := (belc hb (b := w.heap.size + 1) (o := 38) (by omega)).trans q38
          have q39 := (belc hb (b := w.heap.size + 1) (o := 39) (by omega)).trans q39
          have hlr : w.heap.size + 1 < wr.heap.size := by omega
          have hl0 : w.heap.size < wr.heap.size := by omega
          by_cases hlt : k < t.dl.n
          · obtain ⟨ab, ao, hAe, hlo, hat⟩ := HD.out.at_ (by omega)
            obtain ⟨x, hx⟩ : ∃ x, ds[k]? = some x := ⟨_, List.getElem?_eq_getElem (by rw [HD.out.len]; exact hlt)⟩
            have c0 : wr.cell? ⟨ab, ao + k * 5, none⟩ = some (.int .i64 x.id) := (belc hbw hlo).trans (hat k x hx 0 _ rfl)
            have c1 : wr.cell? ⟨ab, ao + k * 5 + 1, none⟩ = some (.int .i64 x.field) := (belc hbw hlo).trans (hat k x hx 1 _ rfl)
            have c2 : wr.cell? ⟨ab, ao + k * 5 + 2, none⟩ = some (.int .i64 x.op) := (belc hbw hlo).trans (hat k x hx 2 _ rfl)
            have c3 : wr.cell? ⟨ab, ao + k * 5 + 3, none⟩ = some (.bool x.ref) := (belc hbw hlo).trans (hat k x hx 3 _ rfl)
            have c4 : wr.cell? ⟨ab, ao + k * 5 + 4, none⟩ = some (.int .i64 x.n) := (belc hbw hlo).trans (hat k x hx 4 _ rfl)
            have HX := Lib.hid hx
            have HBW := Lib.hid hbw
            obtain ⟨V, hV⟩ : ∃ V, V = wr.alloc (.cells #[.int .i64 x.id, .int .i64 x.field, .int .i64 x.op, .bool x.ref, .int .i64 x.n] 64) := ⟨_, rfl⟩
            have hbV : Below wr.heap.size wr V := by rw [hV]; exact (Below.refl _ _).alloc (Nat.le_refl _) _
            have hzV : V.heap.size = wr.heap.size + 1 := by rw [hV]; simp
            have v0 : V.cell? ⟨wr.heap.size, 0, none⟩ = some (.int .i64 x.id) := (by rw [hV, cell_new _ _ _ _ _ (by simp <;> omega)]; rfl)
            have v1 : V.cell? ⟨wr.heap.size, 1, none⟩ = some (.int .i64 x.field) := (by rw [hV, cell_new _ _ _ _ _ (by simp <;> omega)]; rfl)
            have v2 : V.cell? ⟨wr.heap.size, 2, none⟩ = some (.int .i64 x.op) := (by rw [hV, cell_new _ _ _ _ _ (by simp <;> omega)]; rfl)
            have v3 : V.cell? ⟨wr.heap.size, 3, none⟩ = some (.bool x.ref) := (by rw [hV, cell_new _ _ _ _ _ (by simp <;> omega)]; rfl)
            have v4 : V.cell? ⟨wr.heap.size, 4, none⟩ = some (.int .i64 x.n) := (by rw [hV, cell_new _ _ _ _ _ (by simp <;> omega)]; rfl)
            have HP := Lib.hid (HS.out.up (hbw.trans (hbV.mono (by omega))))
            have HBV := Lib.hid hbV
            have HBWV := Lib.hid (hbw.trans (hbV.mono hbw.size))
            have HZV := Lib.hid hzV
            have hlV : wr.heap.size < V.heap.size := by omega
            clear hat hx hbw hbV hzV
            rw [hAe]
            go_wp2_with fail
            rw [← hV]
            clear hV c0 c1 c2 c3 c4
            refine (refread_any A n c l x.id x.field V HP.out hn).mono ?_
            rintro e w2 ⟨rfl, hb2⟩
            have hz2 := hb2.size
            have HB2 := Lib.hid (hb2.mono (Nat.le_of_lt hlV))
            have HBW2 := Lib.hid (HBWV.out.trans (hb2.mono HBWV.out.size))
            have HBL2 := Lib.hid (hb.trans ((HBV.out.mono hzr).trans (hb2.mono (by omega))))
            have q2 := (belc hb2 (b := w.heap.size) (o := 0) (by omega)).trans ((belc HBV.out (by omega)).trans q2)
            have q38 := (belc hb2 (b := w.heap.size + 1) (o := 38) (by omega)).trans ((belc HBV.out (by omega)).trans q38)
            have q39 := (belc hb2 (b := w.heap.size + 1) (o := 39) (by omega)).trans ((belc HBV.out (by omega)).trans q39)
            have v0 := (belc hb2 hlV).trans v0
            have v1 := (belc hb2 hlV).trans v1
            have hl2 : wr.heap.size < w2.heap.size := by omega
            obtain ⟨rb, hrb⟩ : ∃ b, b = readB x.id x.field (l.map Ob.po) := ⟨_, rfl⟩
            obtain ⟨rv, hrv⟩ : ∃ v, v = readD x.id x.field (l.map Ob.po) := ⟨_, rfl⟩
            rw [← hrb, ← hrv]
            have HBC := Lib.hid (show badD (l.map Ob.po) x = (!rb || rv.ref) from by rw [hrb, hrv]; rfl)
            clear hrb hrv hb2 hb
            cases rb
            · have HPP := Lib.hid (show codeE (allP (l.map Ob.po) st rs ds ws ns) = 14 from by unfold allP; rw [if_neg (by simpa using HST.out), if_neg (by rw [HWN.out]; simp), if_pos (any_at HX.out (by rw [HBC.out]; rfl))]; rfl)
              go_wp2
              all_goals
                refine bodyPost_ret (v := .int .i64 14) (by simp [results, Tryd.results9, go_sem]) rfl ⟨?_, (by repeat (first | (with_reducible exact HBW2.out) | (with_reducible refine Below.drew ?_) | (with_reducible refine below_drewN ?_ _) | (with_reducible refine Below.setCell ?_ ?_ _; rotate_left; (first | omega | (simp <;> omega))) | (with_reducible refine Below.alloc ?_ ?_ _; rotate_left; (first | omega | (simp <;> omega)))))⟩
                rw [HPP.out]

            · cases hrr : rv.ref
              · have HOK := Lib.hid (show badD (l.map Ob.po) x = false from by rw [HBC.out, hrr]; rfl)
                go_wp2
                go_roundw
                case rel => exact ⟨k + 1, by omega, by go_num, Lib.hid (fun i y hi hy => by
                  by_cases hik : i = k
                  · subst hik; rw [HX.out] at hy; injection hy with hy; subst hy; exact HOK.out
                  · exact hno.out i y (by omega) hy), (by repeat (first | (with_reducible exact HBL2.out) | (with_reducible refine Below.drew ?_) | (with_reducible refine below_drewN ?_ _) | (with_reducible refine Below.setCell ?_ ?_ _; rotate_left; (first | omega | (simp <;> omega))) | (with_reducible refine Below.alloc ?_ ?_ _; rotate_left; (first | omega | (simp <;> omega)))))⟩
                case measure => simp [intOf]; omega

              · have HPP := Lib.hid (show codeE (allP (l.map Ob.po) st rs ds ws ns) = 14 from by unfold allP; rw [if_neg (by simpa using HST.out), if_neg (by rw [HWN.out]; simp), if_pos (any_at HX.out (by rw [HBC.out, hrr]; rfl))]; rfl)
                go_wp2
                all_goals
                  refine bodyPost_ret (v := .int .i64 14) (by simp [results, Tryd.results9, go_sem]) rfl ⟨?_, (by repeat (first | (with_reducible exact HBW2.out) | (with_reducible refine Below.drew ?_) | (with_reducible refine below_drewN ?_ _) | (with_reducible refine Below.setCell ?_ ?_ _; rotate_left; (first | omega | (simp <;> omega))) | (with_reducible refine Below.alloc ?_ ?_ _; rotate_left; (first | omega | (simp <;> omega)))))⟩
                  rw [HPP.out]

          · obtain rfl : k = t.dl.n := by omega
            have HDN := Lib.hid (show ds.any (badD (l.map Ob.po)) = false from any_no fun i x hx => hno.out i x (by have := (List.getElem?_eq_some_iff.1 hx).1; rw [HD.out.len] at this; exact this) hx)
            have HBwr := Lib.hid hbw
            clear hbw hno
            obtain ⟨wa, hwa⟩ : ∃ wa, wa = wr := ⟨_, rfl⟩
            subst hwa
            obtain ⟨mb, hmb⟩ : ∃ mb, mb = wa.heap.size := ⟨_, rfl⟩
            have hmm := @run_makeMap Tryd.prog
            have hla : w.heap.size + 1 < wa.heap.size := hlr
            have HBwa := Lib.hid HBwr.out
            clear HBwr hb
            go_wp2_with fail
            rw [← hmb]
            have HMB := Lib.hid hmb
            clear hmb
            go_loopw [63] (fun i wr => ∃ k : Nat, k ≤ t.nw.n ∧ i = .int .i64 k ∧ Hid (∀ (i : Nat) (x : Ob), i < k → ns[i]? = some x → (fun o => getB o.id (l.map Ob.po)) x = false) ∧ Hid (IdMap wr mb k (ids ns k)) ∧ Below wa.heap.size wa wr) (fun i _ => t.nw.n - (intOf i).toNat)
            case atStart => exact ⟨0, Nat.zero_le _, rfl, Lib.hid (fun i x h => absurd h (by omega)), Lib.hid (by rw [HMB.out]; exact IdMap.made wa ns), (Below.refl _ _).alloc (Nat.le_refl _) _⟩
            case round =>
              obtain ⟨k, hk, rfl, hno, hmap, hb⟩ := hrel
              have hzr := hb.size
              have hbw : Below w.heap.size w wr := HBwa.out.trans (hb.mono HBwa.out.size)
              have q2 := (belc hb (b := w.heap.size) (o := 0) (by omega)).trans q2
              have q38 := (belc hb (b := w.heap.size + 1) (o := 38) (by omega)).trans q38
              have hlr : w.heap.size + 1 < wr.heap.size := by omega
              have hl0 : w.heap.size < wr.heap.size := by omega
              by_cases hlt : k < t.nw.n
              · obtain ⟨ab, ao, hAe, hlo, hat⟩ := HN.out.at_ (by omega)
                obtain ⟨x, hx⟩ : ∃ x, ns[k]? = some x := ⟨_, List.getElem?_eq_getElem (by rw [HN.out.len]; exact hlt)⟩
                have c0 : wr.cell? ⟨ab, ao + k * 2, none⟩ = some (.int .i64 x.id) := (belc hbw hlo).trans (hat k x hx 0 _ rfl)
                have c1 : wr.cell? ⟨ab, ao + k * 2 + 1, none⟩ = some (.slice x.A x.n x.c) := (belc hbw hlo).trans (hat k x hx 1 _ rfl)
                have HX := Lib.hid hx
                have HBW := Lib.hid hbw
                obtain ⟨V, hV⟩ : ∃ V, V = wr.alloc (.cells #[.int .i64 x.id, .slice x.A x.n x.c] 39) := ⟨_, rfl⟩
                have hbV : Below wr.heap.size wr V := by rw [hV]; exact (Below.refl _ _).alloc (Nat.le_refl _) _
                have hzV : V.heap.size = wr.heap.size + 1 := by rw [hV]; simp
                have v0 : V.cell? ⟨wr.heap.size, 0, none⟩ = some (.int .i64 x.id) := (by rw [hV, cell_new _ _ _ _ _ (by simp <;> omega)]; rfl)
                have v1 : V.cell? ⟨wr.heap.size, 1, none⟩ = some (.slice x.A x.n x.c) := (by rw [hV, cell_new _ _ _ _ _ (by simp <;> omega)]; rfl)
                have HP := Lib.hid (HS.out.up (hbw.trans (hbV.mono (by omega))))
                have HBV := Lib.hid hbV
                have HBWV := Lib.hid (hbw.trans (hbV.mono hbw.size))
                have HZV := Lib.hid hzV
                have hlV : wr.heap.size < V.heap.size := by omega
                clear hat hx hbw hbV hzV
                rw [hAe]
                go_wp2_with fail
                rw [← hV]
                clear hV c0 c1
                refine (refget_any A n c l x.id V HP.out hn).mono ?_
                rintro e w2 ⟨A2, n2, c2, rfl, hn2, hs2, hA2, hb2⟩
                have hz2 := hb2.size
                have HBW2 := Lib.hid (HBWV.out.trans (hb2.mono HBWV.out.size))
                have HBL2 := Lib.hid (hb.trans ((HBV.out.mono hzr).trans (hb2.mono (by omega))))
                have q2 := (belc hb2 (b := w.heap.size) (o := 0) (by omega)).trans ((belc HBV.out (by omega)).trans q2)
                have q38 := (belc hb2 (b := w.heap.size + 1) (o := 38) (by omega)).trans ((belc HBV.out (by omega)).trans q38)
                have v0 := (belc hb2 hlV).trans v0
                have v1 := (belc hb2 hlV).trans v1
                have hl2 : wr.heap.size < w2.heap.size := by omega
                have HM2 := Lib.hid ((hmap.out.below HBV.out).below (hb2.mono (Nat.le_refl _)))
                have HWF := Lib.hid (hnw x (List.mem_of_getElem? HX.out))
                clear hb2 hb
                cases hgb : getB x.id (l.map Ob.po)
                · have HOK := Lib.hid hgb
                  have HB3 := Lib.hid (HBL2.out.alloc HBL2.out.size (.cells #[.int .i64 (getO x.id (l.map Ob.po)).id, .slice A2 n2 c2] 39))
                  go_wp2_with (at_mapUpdate; refine IdMap.put (HM2.out.alloc _) rfl rfl (by unfold maxLen; omega) rfl rfl rfl HWF.out ?_; intro w3 HM3 hgr3)
                  all_goals
                    have hb3 := HB3.out.grown hgr3 (by have := HB3.out.size; exact this) (fun k hk => by cases hk; exact Nat.le_of_eq HMB.out.symm)
                    have HM3 := Lib.hid HM3
                    have HB3' := Lib.hid hb3
                    clear hb3 hgr3
                    go_wp2
                    go_roundw
                    case rel => exact ⟨k + 1, by omega, by go_num, Lib.hid (fun i y hi hy => by
                      by_cases hik : i = k
                      · subst hik; rw [HX.out] at hy; injection hy with hy; subst hy; exact HOK.out
                      · exact hno.out i y (by omega) hy), Lib.hid (HM3.out.congr (ids_succ HX.out)), HB3'.out⟩
                    case measure => simp [intOf]; omega
                · have HPP := Lib.hid (show codeE (allP (l.map Ob.po) st rs ds ws ns) = 9 from by rw [all_new (by simpa using HST.out) HWN.out HDN.out (any_at HX.out hgb)]; rfl)
                  go_wp2
                  all_goals
                    refine bodyPost_ret (v := .int .i64 9) (by simp [results, Tryd.results9, go_sem]) rfl ⟨?_, (by repeat (first | (with_reducible exact HBW2.out) | (with_reducible refine Below.drew ?_) | (with_reducible refine below_drewN ?_ _) | (with_reducible refine Below.setCell ?_ ?_ _; rotate_left; (first | omega | (simp <;> omega))) | (with_reducible refine Below.alloc ?_ ?_ _; rotate_left; (first | omega | (simp <;> omega)))))⟩
                    rw [HPP.out]

              · obtain rfl : k = t.nw.n := by omega
                have HNN := Lib.hid (show ns.any ((fun o => getB o.id (l.map Ob.po))) = false from any_no fun i x hx => hno.out i x (by have := (List.getElem?_eq_some_iff.1 hx).1; rw [HN.out.len] at this; exact this) hx)
                have HBwr := Lib.hid hbw
                clear hbw hno
                have HMW := Lib.hid (hmap.out.congr (ids_all (Nat.le_of_eq HN.out.len)))
                obtain ⟨wb, hwb⟩ : ∃ wb, wb = wr := ⟨_, rfl⟩
                subst hwb
                have hmbb : mb < wb.heap.size := HMW.out.lt
                have HBwb := Lib.hid HBwr.out
                clear HBwr hmap hb
                go_wp2_with fail
                go_loopw [82] (fun i wr => ∃ k : Nat, k ≤ t.wt.n ∧ i = .int .i64 k ∧ Hid (∀ (i : Nat) (x : Cl), i < k → ws[i]? = some x → badW (l.map Ob.po) ns x = false) ∧ Below wb.heap.size wb wr) (fun i _ => t.wt.n - (intOf i).toNat)
                case atStart => exact ⟨0, Nat.zero_le _, rfl, Lib.hid (fun i x h => absurd h (by omega)), Below.refl _ _⟩
                case round =>
                  obtain ⟨k, hk, rfl, hno, hb⟩ := hrel
                  have hzr := hb.size
                  have hbw : Below w.heap.size w wr := HBwb.out.trans (hb.mono HBwb.out.size)
                  have q2 := (belc hb (b := w.heap.size) (o := 0) (by omega)).trans q2
                  have hlr : w.heap.size + 1 < wr.heap.size := by omega
                  have hl0 : w.heap.size < wr.heap.size := by omega
                  by_cases hlt : k < t.wt.n
                  · obtain ⟨ab, ao, hAe, hlo, hat⟩ := HW.out.at_ (by omega)
                    obtain ⟨x, hx⟩ : ∃ x, ws[k]? = some x := ⟨_, List.getElem?_eq_getElem (by rw [HW.out.len]; exact hlt)⟩
                    have c0 : wr.cell? ⟨ab, ao + k * 4, none⟩ = some (.int .i64 x.id) := (belc hbw hlo).trans (hat k x hx 0 _ rfl)
                    have c1 : wr.cell? ⟨ab, ao + k * 4 + 1, none⟩ = some (.int .i64 x.field) := (belc hbw hlo).trans (hat k x hx 1 _ rfl)
                    have c2 : wr.cell? ⟨ab, ao + k * 4 + 2, none⟩ = some (.bool x.ref) := (belc hbw hlo).trans (hat k x hx 2 _ rfl)
                    have c3 : wr.cell? ⟨ab, ao + k * 4 + 3, none⟩ = some (.int .i64 x.n) := (belc hbw hlo).trans (hat k x hx 3 _ rfl)
                    have HX := Lib.hid hx
                    have HBW := Lib.hid hbw
                    obtain ⟨V, hV⟩ : ∃ V, V = wr.alloc (.cells #[.int .i64 x.id, .int .i64 x.field, .bool x.ref, .int .i64 x.n] 42) := ⟨_, rfl⟩
                    have hbV : Below wr.heap.size wr V := by rw [hV]; exact (Below.refl _ _).alloc (Nat.le_refl _) _
                    have hzV : V.heap.size = wr.heap.size + 1 := by rw [hV]; simp
                    have v0 : V.cell? ⟨wr.heap.size, 0, none⟩ = some (.int .i64 x.id) := (by rw [hV, cell_new _ _ _ _ _ (by simp <;> omega)]; rfl)
                    have v1 : V.cell? ⟨wr.heap.size, 1, none⟩ = some (.int .i64 x.field) := (by rw [hV, cell_new _ _ _ _ _ (by simp <;> omega)]; rfl)
                    have v2 : V.cell? ⟨wr.heap.size, 2, none⟩ = some (.bool x.ref) := (by rw [hV, cell_new _ _ _ _ _ (by simp <;> omega)]; rfl)
                    have v3 : V.cell? ⟨wr.heap.size, 3, none⟩ = some (.int .i64 x.n) := (by rw [hV, cell_new _ _ _ _ _ (by simp <;> omega)]; rfl)
                    have HP := Lib.hid (HS.out.up (hbw.trans (hbV.mono (by omega))))
                    have HBV := Lib.hid hbV
                    have HBWV := Lib.hid (hbw.trans (hbV.mono hbw.size))
                    have HZV := Lib.hid hzV
                    have hlV : wr.heap.size < V.heap.size := by omega
                    clear hat hx hbw hbV hzV
                    rw [hAe]
                    go_wp2_with fail
                    rw [← hV]
                    clear hV c0 c1 c2 c3
                    refine (refread_any A n c l x.id x.field V HP.out hn).mono ?_
                    rintro e w2 ⟨rfl, hb2⟩
                    have hz2 := hb2.size
                    have HB2 := Lib.hid (hb2.mono (Nat.le_of_lt hlV))
                    have HBW2 := Lib.hid (HBWV.out.trans (hb2.mono HBWV.out.size))
                    have HBL2 := Lib.hid (hb.trans ((HBV.out.mono hzr).trans (hb2.mono (by omega))))
                    have q2 := (belc hb2 (b := w.heap.size) (o := 0) (by omega)).trans ((belc HBV.out (by omega)).trans q2)
                    have v0 := (belc hb2 hlV).trans v0
                    have v1 := (belc hb2 hlV).trans v1
                    have hl2 : wr.heap.size < w2.heap.size := by omega
                    have hmb2 : mb < w2.heap.size := by omega
                    have HM2 := Lib.hid ((((HMW.out.below (hb.mono (Nat.le_refl _))).below HBV.out).below (hb2.mono (Nat.le_refl _))).alloc (.cells #[.bool (readD x.id x.field (l.map Ob.po)).ref, .int .i64 (readD x.id x.field (l.map Ob.po)).n] 26))
                    have hlk := HM2.out.look (hwt x (List.mem_of_getElem? HX.out))
                    obtain ⟨rb, hrb⟩ : ∃ b, b = readB x.id x.field (l.map Ob.po) := ⟨_, rfl⟩
                    obtain ⟨rv, hrv⟩ : ∃ v, v = readD x.id x.field (l.map Ob.po) := ⟨_, rfl⟩
                    rw [← hrv] at hlk
                    rw [← hrb, ← hrv]
                    have HBC := Lib.hid (show badW (l.map Ob.po) ns x = (!rb && !(ns.any fun y => y.id == x.id)) from by rw [hrb]; rfl)
                    clear hrb hrv hb2 hb
                    cases rb
                    · cases hany : ns.any fun y => y.id == x.id
                      · rw [hany] at hlk
                        have HPP := Lib.hid (show codeE (allP (l.map Ob.po) st rs ds ws ns) = 9 from by unfold allP; rw [if_neg (by simpa using HST.out), if_neg (by rw [HWN.out]; simp), if_neg (by rw [HDN.out]; simp), if_pos (any_at HX.out (by rw [HBC.out, hany]; rfl))]; rfl)
                        go_wp2
                        all_goals
                          refine bodyPost_ret (v := .int .i64 9) (by simp [results, Tryd.results9, go_sem]) rfl ⟨?_, (by repeat (first | (with_reducible exact HBW2.out) | (with_reducible refine Below.drew ?_) | (with_reducible refine below_drewN ?_ _) | (with_reducible refine Below.setCell ?_ ?_ _; rotate_left; (first | omega | (simp <;> omega))) | (with_reducible refine Below.alloc ?_ ?_ _; rotate_left; (first | omega | (simp <;> omega)))))⟩
                          rw [HPP.out]

                      · rw [hany] at hlk
                        have HOK := Lib.hid (show badW (l.map Ob.po) ns x = false from by rw [HBC.out, hany]; rfl)
                        go_wp2
                        go_roundw
                        case rel => exact ⟨k + 1, by omega, by go_num, Lib.hid (fun i y hi hy => by
                          by_cases hik : i = k
                          · subst hik; rw [HX.out] at hy; injection hy with hy; subst hy; exact HOK.out
                          · exact hno.out i y (by omega) hy), (by repeat (first | (with_reducible exact HBL2.out) | (with_reducible refine Below.drew ?_) | (with_reducible refine below_drewN ?_ _) | (with_reducible refine Below.setCell ?_ ?_ _; rotate_left; (first | omega | (simp <;> omega))) | (with_reducible refine Below.alloc ?_ ?_ _; rotate_left; (first | omega | (simp <;> omega)))))⟩
                        case measure => simp [intOf]; omega

                    · have HOK := Lib.hid (show badW (l.map Ob.po) ns x = false from by rw [HBC.out]; rfl)
                      clear hlk
                      go_wp2
                      go_roundw
                      case rel => exact ⟨k + 1, by omega, by go_num, Lib.hid (fun i y hi hy => by
                        by_cases hik : i = k
                        · subst hik; rw [HX.out] at hy; injection hy with hy; subst hy; exact HOK.out
                        · exact hno.out i y (by omega) hy), (by repeat (first | (with_reducible exact HBL2.out) | (with_reducible refine Below.drew ?_) | (with_reducible refine below_drewN ?_ _) | (with_reducible refine Below.setCell ?_ ?_ _; rotate_left; (first | omega | (simp <;> omega))) | (with_reducible refine Below.alloc ?_ ?_ _; rotate_left; (first | omega | (simp <;> omega)))))⟩
                      case measure => simp [intOf]; omega

                  · obtain rfl : k = t.wt.n := by omega
                    have HWW := Lib.hid (show ws.any (badW (l.map Ob.po) ns) = false from any_no fun i x hx => hno.out i x (by have := (List.getElem?_eq_some_iff.1 hx).1; rw [HW.out.len] at this; exact this) hx)
                    have HBwr := Lib.hid hbw
                    clear hbw hno
                    have HPP := Lib.hid (show codeE (allP (l.map Ob.po) st rs ds ws ns) = 0 from by unfold allP; rw [if_neg (by simpa using HST.out), if_neg (by rw [HWN.out]; simp), if_neg (by rw [HDN.out]; simp), if_neg (by rw [HWW.out]; simp), if_neg (by rw [HNN.out]; simp)]; rfl)
                    go_wp2
                    refine bodyPost_ret (v := .int .i64 0) (by simp [results, Tryd.results9, go_sem]) rfl ⟨?_, HBwr.out⟩
                    rw [HPP.out]

    · have HPP := Lib.hid (show codeE (allP (l.map Ob.po) st rs ds ws ns) = 7 from by unfold allP; rw [if_pos (by simpa using HST.out)]; rfl)
      go_wp2
      refine bodyPost_ret (v := .int .i64 7) (by simp [results, Tryd.results9, go_sem]) rfl ⟨?_, HB.out⟩
      rw [HPP.out]
end Go.Proofs.YtfhpniafkkgibaaDoor
