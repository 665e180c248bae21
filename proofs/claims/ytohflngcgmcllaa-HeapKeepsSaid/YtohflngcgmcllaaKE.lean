/- HeapKeeps, walked. -/
import Derived.Test.YtohflngcgmcllaaJ
import Derived.Test.YtohflngcgmcllaaK0
import Derived.Test.YtohflngcgmcllaaEl
import Derived.Deep.DeepCutAuto
import Derived.Deep.RegionHeld3
namespace Go.Proofs.Ytohflngcgmcllaa
open Go.RowKit

/-- The cell that the last write's heap came to. -/
def Bk (W : World) (L : List PO) (s : Value) (wx : World) : Prop := ∃ (g : Nat) (Aq : Option Addr) (nq cq : Nat) (lq : List Ob), s = .pointer (some ⟨g, 0, none⟩) ∧ wx.cell? ⟨g, 0, none⟩ = some (.slice Aq nq cq) ∧ Hid (nq = L.length) ∧ Hid (Hp wx wx.heap.size Aq nq lq) ∧ Hid (lq.map Ob.po = L) ∧ Below W.heap.size W wx
theorem Bk.after {W Y : World} {L : List PO} {Aq : Option Addr} {nq cq : Nat} {lq : List Ob} (hb : Below W.heap.size W Y) (hp : Hid (Hp Y Y.heap.size Aq nq lq)) (hl : lq.map Ob.po = L) (hn : Hid (nq = L.length)) :
    Bk W L (.pointer (some ⟨Y.heap.size, 0, none⟩)) (Y.alloc (.cells #[.slice Aq nq cq] 24)) := by
  have hb2 : Below Y.heap.size Y (Y.alloc (.cells #[.slice Aq nq cq] 24)) := (Below.refl _ _).alloc (Nat.le_refl _) _
  refine ⟨_, Aq, nq, cq, lq, rfl, by rw [cell_new _ _ _ _ _ rfl]; rfl, hn, Lib.hid (hp.out.up hb2), Lib.hid hl, hb.trans (hb2.mono hb.size)⟩
theorem Bk.before {W V Y : World} {L : List PO} {Aq : Option Addr} {nq cq r : Nat} {lq : List Ob} {u : Value} (hV : V.heap.size = r + 1) (hWr : W.heap.size ≤ r) (hb : Below W.heap.size W Y) (hr : Y.cell? ⟨r, 0, none⟩ = some u) (hp : Hid (Hp Y Y.heap.size Aq nq lq)) (hf : Hid (Fr V.heap.size Aq lq)) (hl : lq.map Ob.po = L) (hn : Hid (nq = L.length)) :
    Bk W L (.pointer (some ⟨r, 0, none⟩)) (Y.setCell ⟨r, 0, none⟩ (.slice Aq nq cq)) := by
  have hg := grown1 Y ⟨r, 0, none⟩ (.slice Aq nq cq)
  exact ⟨_, Aq, nq, cq, lq, rfl, World.cell?_setCell_same _ _ _ hr, hn, Lib.hid (hp.out.apart hf.out hg (by show r < _; omega)), Lib.hid hl, hb.setCell hWr _⟩

set_option maxRecDepth 100000 in
set_option maxHeartbeats 8000000 in
theorem keeps_any (A : Option Addr) (n c : Nat) (l : List Ob) (at_ fd : Int) (v : Val) (w : World) (hs : OkHp w A n c l) (ha0 : 0 ≤ at_) (ha1 : at_ ≤ 255) (hf0 : 0 ≤ fd) (hf1 : fd ≤ 255) :
    Calls Try.prog 4 #[.agg #[.slice A n c], .int .u8 at_, .int .u8 fd, .agg #[.bool v.ref, .int .i64 v.n]] w fun e w' => e = .returned (.bool true) ∧ Below w.heap.size w w' := by
  have hfew := hs.few
  have HL := Lib.hid hs.hp.sl.len
  have HO := Lib.hid hs.hp.obs
  have hnc := hs.cap
  obtain ⟨w1, hw1⟩ : ∃ w1, w1 = (w.alloc (.cells #[.slice A n c] 24)).alloc (.cells #[.bool v.ref, .int .i64 v.n] 29) := ⟨_, rfl⟩
  have hb1 : Below w.heap.size w w1 := by rw [hw1]; exact (by repeat (first | (with_reducible exact (Below.refl _ _)) | (with_reducible refine Below.drew ?_) | (with_reducible refine below_drewN ?_ _) | (with_reducible refine Below.setCell ?_ ?_ _; rotate_left; (first | omega | (simp <;> omega))) | (with_reducible refine Below.alloc ?_ ?_ _; rotate_left; (first | omega | (simp <;> omega)))))
  have hz1 : w1.heap.size = w.heap.size + 2 := by rw [hw1]; simp
  have HA := Lib.hid (show w1.cell? ⟨w.heap.size, 0, none⟩ = some (.slice A n c) from by rw [hw1, cell_old _ _ _ _ (by simp), cell_new _ _ _ _ _ rfl]; rfl)
  have HB0 := Lib.hid (show w1.cell? ⟨w.heap.size + 1, 0, none⟩ = some (.bool v.ref) from by rw [hw1, cell_new _ _ _ _ _ (by simp)]; rfl)
  have HB1 := Lib.hid (show w1.cell? ⟨w.heap.size + 1, 1, none⟩ = some (.int .i64 v.n) from by rw [hw1, cell_new _ _ _ _ _ (by simp)]; rfl)
  have HH1 := Lib.hid (hs.hp.up hb1)
  clear hs
  go_enter Try.func4, Try.ntmps4
  go_wp2_with fail
  rw [← hw1]
  have HW1 := Lib.hid hw1
  clear hw1
  refine (sane_any w1).mono ?_
  rintro e w2 ⟨rfl, hb2⟩
  have hz2 := hb2.size
  have a2 : w2.cell? ⟨w.heap.size, 0, none⟩ = some (.slice A n c) := (belc hb2 (by omega)).trans HA.out
  have HH2 := Lib.hid (HH1.out.up hb2)
  go_wp2_with fail
  refine (big_any A n c l w2 HH2.out.sl (by omega) (fun o ho => by have := (HH2.out.obs o ho).2; omega)).mono ?_
  rintro e w3 ⟨b, rfl, hb3⟩
  have hz3 := hb3.size
  have b13 : Below w1.heap.size w1 w3 := hb2.trans (hb3.mono hz2)
  have bw3 : Below w.heap.size w w3 := hb1.trans (b13.mono hb1.size)
  have a3 : w3.cell? ⟨w.heap.size, 0, none⟩ = some (.slice A n c) := (belc b13 (by omega)).trans HA.out
  have HH3 := Lib.hid (HH1.out.up b13)
  clear a2
  cases b with
  | true =>
    go_wp2
    go_ret
    exact ⟨rfl, bw3⟩
  | false =>
    go_wp2_with fail
    refine (valid_any A n c l w3 HH3.out.sl (by omega)).mono ?_
    rintro e w4 ⟨rfl, hb4⟩
    have hz4 := hb4.size
    have b14 : Below w1.heap.size w1 w4 := b13.trans (hb4.mono b13.size)
    have bw4 : Below w.heap.size w w4 := hb1.trans (b14.mono hb1.size)
    have a4 : w4.cell? ⟨w.heap.size, 0, none⟩ = some (.slice A n c) := (belc b14 (by omega)).trans HA.out
    have HH4 := Lib.hid (HH1.out.up b14)
    clear a3
    cases hv : validB (l.map Ob.po) with
    | false =>
      go_wp2
      go_ret
      exact ⟨rfl, bw4⟩
    | true =>
      have HV := Lib.hid hv
      clear hv
      by_cases hn0 : n = 0
      · subst hn0
        go_wp2
        go_ret
        exact ⟨rfl, bw4⟩
      · obtain ⟨i, hi⟩ : ∃ i : Nat, at_ % (n : Int) = i := ⟨(at_ % (n : Int)).toNat, by have := Int.emod_nonneg at_ (show (n : Int) ≠ 0 by omega); omega⟩
        have hin : i < n := by have := Int.emod_lt_of_pos at_ (show (0 : Int) < n by omega); omega
        have htm : at_.tmod (n : Int) = i := by rw [Int.tmod_eq_emod_of_nonneg ha0]; exact hi
        have hinI : (i : Int) < (n : Int) := by omega
        obtain ⟨o, ho⟩ : ∃ o, l[i]? = some o := ⟨_, List.getElem?_eq_getElem (by rw [HL.out]; exact hin)⟩
        obtain ⟨ab, ao, hA, hlo, hat⟩ := HH4.out.sl.at_ (by omega)
        subst hA
        have c0 : w4.cell? ⟨ab, ao + i * 2, none⟩ = some (.int .i64 o.id) := hat i o ho 0 _ rfl
        have c1 : w4.cell? ⟨ab, ao + i * 2 + 1, none⟩ = some (.slice o.A o.n o.c) := hat i o ho 1 _ rfl
        have hnI : ¬ (n : Int) = 0 := by omega
        have hwr : IntKind.i64.wrap at_ = at_ := by rw [IntKind.wrap_i64]; omega
        have l4 : w.heap.size < w4.heap.size := by omega
        have l4' : w.heap.size + 1 < w4.heap.size := by omega
        have hi0 : (0 : Int) ≤ (i : Int) := by omega
        have hHO := Lib.hid ho
        clear hat ho hi
        go_wp2_with fail
        go_region
        obtain ⟨V5, hV5⟩ : ∃ V5, V5 = (w4.alloc (.cells #[.int .i64 o.id, .slice o.A o.n o.c] 27)).drew := ⟨_, rfl⟩
        have hbV5 : Below w4.heap.size w4 V5 := by rw [hV5]; exact (by repeat (first | (with_reducible exact (Below.refl _ _)) | (with_reducible refine Below.drew ?_) | (with_reducible refine below_drewN ?_ _) | (with_reducible refine Below.setCell ?_ ?_ _; rotate_left; (first | omega | (simp <;> omega))) | (with_reducible refine Below.alloc ?_ ?_ _; rotate_left; (first | omega | (simp <;> omega)))))
        have hzV5 : V5.heap.size = w4.heap.size + 1 := by rw [hV5]; show (w4.alloc _).heap.size = _; simp
        have o0 : V5.cell? ⟨w4.heap.size, 0, none⟩ = some (.int .i64 o.id) := by rw [hV5]; show (w4.alloc _).cell? _ = _; rw [cell_new _ _ _ _ _ rfl]; rfl
        have o1 : V5.cell? ⟨w4.heap.size, 1, none⟩ = some (.slice o.A o.n o.c) := by rw [hV5]; show (w4.alloc _).cell? _ = _; rw [cell_new _ _ _ _ _ rfl]; rfl
        have O0 := Lib.hid o0
        have O1 := Lib.hid o1
        have b15 : Below w1.heap.size w1 V5 := b14.trans (hbV5.mono b14.size)
        have bw5 : Below w.heap.size w V5 := hb1.trans (b15.mono hb1.size)
        have a5 : V5.cell? ⟨w.heap.size, 0, none⟩ = some (.slice (some ⟨ab, ao, none⟩) n c) := (belc b15 (by omega)).trans HA.out
        have a6 : V5.cell? ⟨w.heap.size + 1, 0, none⟩ = some (.bool v.ref) := (belc b15 (by omega)).trans HB0.out
        have a7 : V5.cell? ⟨w.heap.size + 1, 1, none⟩ = some (.int .i64 v.n) := (belc b15 (by omega)).trans HB1.out
        have HH5 := Lib.hid (HH1.out.up b15)
        have HPO := Lib.hid (po_at hHO.out)
        have HVP := Lib.hid (show ValidP (l.map Ob.po) from validP_of HV.out)
        obtain ⟨of1, of2⟩ := HO.out o (List.mem_of_getElem? hHO.out)
        have HIX := Lib.hid (show idx o.id (l.map Ob.po) = some i from idx_valid HVP.out HPO.out)
        have HOS := Lib.hid of1
        clear a4 c0 c1 of1
        rw [← hV5]
        have HV5 := Lib.hid hV5
        clear hV5
        by_cases hon : o.n = 0
        · have HR := Lib.hid (read_far (f := 0) HIX.out HPO.out (by show (o.s.length : Int) ≤ 0; rw [HOS.out.len, hon]; exact Int.le_refl _)).1
          rw [hon] at o1
          go_wp2_with fail
          refine (write_any (some ⟨ab, ao, none⟩) n c l o.id 0 v V5 HH5.out (by omega)).mono ?_
          rintro e w6 ⟨A6, n6, c6, l6, rfl, -, -, -, -, hb6⟩
          rw [HR.out]
          have bw6 : Below w.heap.size w w6 := bw5.trans (hb6.mono bw5.size)
          have hz6 := bw6.size
          go_wp2
          go_ret
          exact ⟨rfl, (by repeat (first | (with_reducible exact bw6) | (with_reducible refine Below.drew ?_) | (with_reducible refine below_drewN ?_ _) | (with_reducible refine Below.setCell ?_ ?_ _; rotate_left; (first | omega | (simp <;> omega))) | (with_reducible refine Below.alloc ?_ ?_ _; rotate_left; (first | omega | (simp <;> omega)))))⟩
        · obtain ⟨j, hj⟩ : ∃ j : Nat, fd % (o.n : Int) = j := ⟨(fd % (o.n : Int)).toNat, by have := Int.emod_nonneg fd (show (o.n : Int) ≠ 0 by omega); omega⟩
          have hjn : j < o.n := by have := Int.emod_lt_of_pos fd (show (0 : Int) < o.n by omega); omega
          have hjm : fd.tmod (o.n : Int) = j := by rw [Int.tmod_eq_emod_of_nonneg hf0]; exact hj
          have honI : ¬ (o.n : Int) = 0 := by omega
          obtain ⟨u, hu⟩ : ∃ u, o.s[j]? = some u := ⟨_, List.getElem?_eq_getElem (by rw [HOS.out.len]; exact hjn)⟩
          have HU := Lib.hid hu
          have HR := Lib.hid (read_at HIX.out HPO.out hu).1
          clear hj hu
          go_wp2_with fail
          refine (write_any (some ⟨ab, ao, none⟩) n c l o.id (j : Int) v V5 HH5.out (by omega)).mono ?_
          rintro e w6 ⟨A6, n6, c6, l6, rfl, hp6, hn6, hH6, -, hb6⟩
          rw [HR.out]
          have hX : wroteL o.id (j : Int) v (l.map Ob.po) = (l.map Ob.po).set i ⟨o.id, o.s.set j v⟩ := (wrote_at HR.out HIX.out).trans (writeO_set HPO.out)
          rw [hX] at hp6 hn6
          have hn6x : n6 = n := by rw [hn6, List.length_set, List.length_map]; exact HL.out
          clear hn6
          subst hn6x
          have HP6 := Lib.hid hp6
          have HVX := Lib.hid (show validB (l6.map Ob.po) = true from by rw [hp6]; exact validB_true (valid_set HVP.out HPO.out rfl))
          clear hp6 hX
          have hz6 := hb6.size
          obtain ⟨W7, hW7⟩ : ∃ W7, W7 = w6.alloc (.cells #[.slice A6 n6 c6] 24) := ⟨_, rfl⟩
          have hbW7 : Below w6.heap.size w6 W7 := by rw [hW7]; exact (by repeat (first | (with_reducible exact (Below.refl _ _)) | (with_reducible refine Below.drew ?_) | (with_reducible refine below_drewN ?_ _) | (with_reducible refine Below.setCell ?_ ?_ _; rotate_left; (first | omega | (simp <;> omega))) | (with_reducible refine Below.alloc ?_ ?_ _; rotate_left; (first | omega | (simp <;> omega)))))
          have hzW7 : W7.heap.size = w6.heap.size + 1 := by rw [hW7]; simp
          have b57 : Below V5.heap.size V5 W7 := hb6.trans (hbW7.mono hz6)
          have x7 : W7.cell? ⟨w6.heap.size, 0, none⟩ = some (.slice A6 n6 c6) := by rw [hW7, cell_new _ _ _ _ _ rfl]; rfl
          have HH7 := Lib.hid (hH6.out.up hbW7)
          clear hH6 o0 o1 a5 a6 a7
          go_wp2_with fail
          rw [← hW7]
          have HW7 := Lib.hid hW7
          clear hW7
          refine (valid_any A6 n6 c6 l6 W7 HH7.out.sl (by omega)).mono ?_
          rintro e w8 ⟨rfl, hb8⟩
          rw [HVX.out]
          have hz8 := hb8.size
          have b18 : Below w1.heap.size w1 w8 := b15.trans ((b57.trans (hb8.mono b57.size)).mono b15.size)
          have b58 : Below V5.heap.size V5 w8 := b57.trans (hb8.mono b57.size)
          have x8 : w8.cell? ⟨w6.heap.size, 0, none⟩ = some (.slice A6 n6 c6) := (belc hb8 (by omega)).trans x7
          have X8 := Lib.hid x8
          have A8 := Lib.hid (show w8.cell? ⟨w.heap.size, 0, none⟩ = some (.slice (some ⟨ab, ao, none⟩) n6 c) from (belc b18 (by omega)).trans HA.out)
          have B8 := Lib.hid (show w8.cell? ⟨w.heap.size + 1, 0, none⟩ = some (.bool v.ref) from (belc b18 (by omega)).trans HB0.out)
          have C8 := Lib.hid (show w8.cell? ⟨w.heap.size + 1, 1, none⟩ = some (.int .i64 v.n) from (belc b18 (by omega)).trans HB1.out)
          have D8 := Lib.hid (show w8.cell? ⟨w4.heap.size, 0, none⟩ = some (.int .i64 o.id) from (belc b58 (by omega)).trans O0.out)
          have E8 := Lib.hid (show w8.cell? ⟨w4.heap.size, 1, none⟩ = some (.slice o.A o.n o.c) from (belc b58 (by omega)).trans O1.out)
          have a8 := A8.out
          have HH8 := Lib.hid (HH1.out.up b18)
          have HX8 := Lib.hid (HH7.out.up hb8)
          have bw8 : Below w.heap.size w w8 := hb1.trans (b18.mono hb1.size)
          clear x7
          go_wp2_with fail
          clear x8 a8
          go_loopw [95] (fun i wr => ∃ m : Nat, m ≤ n6 ∧ i = .int .i64 m ∧ Below w8.heap.size w8 wr) (fun i _ => n6 - (intOf i).toNat)
          case atStart => exact ⟨0, Nat.zero_le _, rfl, Below.refl _ _⟩
          case round =>
            obtain ⟨m, hm, rfl, hbr⟩ := hrel
            have hzr := hbr.size
            by_cases hlt : m < n6
            · obtain ⟨a, ha⟩ : ∃ a, l[m]? = some a := ⟨_, List.getElem?_eq_getElem (by rw [HL.out]; exact hlt)⟩
              obtain ⟨ab', ao', hA', hlo', hat'⟩ := HH8.out.sl.at_ (by omega)
              injection hA' with hA'
              injection hA' with e1 e2 _
              subst e1 e2
              have c0 : wr.cell? ⟨ab, ao + m * 2, none⟩ = some (.int .i64 a.id) := (belc hbr hlo').trans (hat' m a ha 0 _ rfl)
              have c1 : wr.cell? ⟨ab, ao + m * 2 + 1, none⟩ = some (.slice a.A a.n a.c) := (belc hbr hlo').trans (hat' m a ha 1 _ rfl)
              obtain ⟨W9, hW9⟩ : ∃ W9, W9 = wr.alloc (.cells #[.int .i64 a.id, .slice a.A a.n a.c] 27) := ⟨_, rfl⟩
              have hbW9 : Below wr.heap.size wr W9 := by rw [hW9]; exact (by repeat (first | (with_reducible exact (Below.refl _ _)) | (with_reducible refine Below.drew ?_) | (with_reducible refine below_drewN ?_ _) | (with_reducible refine Below.setCell ?_ ?_ _; rotate_left; (first | omega | (simp <;> omega))) | (with_reducible refine Below.alloc ?_ ?_ _; rotate_left; (first | omega | (simp <;> omega)))))
              have hzW9 : W9.heap.size = wr.heap.size + 1 := by rw [hW9]; simp
              have F9 := Lib.hid (show W9.cell? ⟨wr.heap.size, 0, none⟩ = some (.int .i64 a.id) from by rw [hW9, cell_new _ _ _ _ _ rfl]; rfl)
              have G9 := Lib.hid (show W9.cell? ⟨wr.heap.size, 1, none⟩ = some (.slice a.A a.n a.c) from by rw [hW9, cell_new _ _ _ _ _ rfl]; rfl)
              have b89 : Below w8.heap.size w8 W9 := hbr.trans (hbW9.mono hzr)
              obtain ⟨as1, as2⟩ := HH8.out.obs a (List.mem_of_getElem? ha)
              have HAS := Lib.hid as1
              have hal : a.n ≤ 8796093021952 := as2
              have HPA := Lib.hid (po_at ha)
              have HAM := Lib.hid ha
              clear hat' ha as1 as2
              go_wp2_with fail
              rw [← hW9]
              have HW9 := Lib.hid hW9
              clear hW9 c0 c1
              go_loopw [102] (fun i wq => ∃ f : Nat, f ≤ a.n ∧ i = .int .i64 f ∧ Below W9.heap.size W9 wq) (fun i _ => a.n - (intOf i).toNat)
              case atStart => exact ⟨0, Nat.zero_le _, rfl, Below.refl _ _⟩
              case round =>
                obtain ⟨f, hf, rfl, hbq⟩ := hrel
                rename World => wq
                have hzq := hbq.size
                have b8q : Below w8.heap.size w8 wq := b89.trans (hbq.mono b89.size)
                by_cases hltf : f < a.n
                · obtain ⟨t, ht⟩ : ∃ t, a.s[f]? = some t := ⟨_, List.getElem?_eq_getElem (by rw [HAS.out.len]; exact hltf)⟩
                  have hkr := keep_read HVP.out (j := j) (v := v) HPO.out HPA.out ht
                  have x9 : wq.cell? ⟨w6.heap.size, 0, none⟩ = some (.slice A6 n6 c6) := (belc b8q (by omega)).trans X8.out
                  have f9 : wq.cell? ⟨wr.heap.size, 0, none⟩ = some (.int .i64 a.id) := (belc hbq (by omega)).trans F9.out
                  obtain ⟨hk1, hk2⟩ := hkr
                  have HK1 := Lib.hid hk1
                  have HK2 := Lib.hid hk2
                  have HX9 := Lib.hid (HX8.out.up b8q)
                  have HT := Lib.hid ht
                  have hltfI : (f : Int) < (a.n : Int) := by omega
                  clear hk1 hk2 ht
                  go_wp2_with fail
                  refine (read_any A6 n6 c6 l6 a.id (f : Int) wq HX9.out (by omega)).mono ?_
                  rintro e x1 ⟨rfl, hbx⟩
                  rw [HP6.out, show (List.map Ob.po l).set i ⟨o.id, o.s.set j v⟩ = (List.map Ob.po l).set i ⟨o.po.id, o.po.s.set j v⟩ from rfl, show a.id = a.po.id from rfl, HK1.out, HK2.out]
                  have hzx := hbx.size
                  have bqx : Below W9.heap.size W9 x1 := hbq.trans (hbx.mono hzq)
                  have b8x : Below w8.heap.size w8 x1 := b89.trans (bqx.mono b89.size)
                  have y0 : x1.cell? ⟨wr.heap.size, 0, none⟩ = some (.int .i64 a.id) := (belc bqx (by omega)).trans F9.out
                  have y1 : x1.cell? ⟨wr.heap.size, 1, none⟩ = some (.slice a.A a.n a.c) := (belc bqx (by omega)).trans G9.out
                  have y2 : x1.cell? ⟨w4.heap.size, 0, none⟩ = some (.int .i64 o.id) := (belc b8x (by omega)).trans D8.out
                  have y3 : x1.cell? ⟨w.heap.size + 1, 0, none⟩ = some (.bool v.ref) := (belc b8x (by omega)).trans B8.out
                  have y4 : x1.cell? ⟨w.heap.size + 1, 1, none⟩ = some (.int .i64 v.n) := (belc b8x (by omega)).trans C8.out
                  obtain ⟨fb, fo, hfA, hflo, hfat⟩ := HAS.out.at_ (by omega)
                  rw [hfA] at y1
                  have y5 : x1.cell? ⟨fb, fo + f * 2, none⟩ = some (.bool t.ref) := (belc b8x hflo).trans (hfat f t HT.out 0 _ rfl)
                  have y6 : x1.cell? ⟨fb, fo + f * 2 + 1, none⟩ = some (.int .i64 t.n) := (belc b8x hflo).trans (hfat f t HT.out 1 _ rfl)
                  have p0 : wr.heap.size < x1.heap.size := by omega
                  have p2 : w4.heap.size < x1.heap.size := by omega
                  have p3 : w.heap.size + 1 < x1.heap.size := by omega
                  have p5 : fb < x1.heap.size := by omega
                  have bXe : Below W9.heap.size W9 x1 := bqx
                  have hXe : W9.heap.size ≤ x1.heap.size := bXe.size
                  clear x9 f9 hfat hfA
                  clear ha0 ha1 hf0 hf1 hb1 hz1 hb2 hz2 hb3 hz3 b13 bw3 hb4 hz4 b14 bw4 hlo hwr l4 l4' hi0 hbV5 hzV5 b15 bw5 of2 hjm honI hon hjn hb6 hz6 hbW7 hzW7 b57 hb8 hz8 b18 b58 bw8 hnc hn0 htm hnI hinI hm hzr hbr hbW9 hzW9 b89 hf hbq hzq b8q hbx hzx bqx b8x hflo hfew hlo'
                  by_cases hmi : m = i
                  · subst hmi
                    have hao : a = o := by have h1 := HAM.out; rw [hHO.out] at h1; injection h1 with h1; exact h1.symm
                    subst hao
                    by_cases hfj : f = j
                    · subst hfj
                      rw [if_pos ⟨rfl, rfl⟩]
                      go_wp2
                      go_quiet (fail)
                      go_wp2
                      go_roundw
                      case rel =>
                        first
                          | exact ⟨f + 1, by omega, by go_num, below_drewN ((by repeat (first | (with_reducible exact bXe) | (with_reducible refine Below.drew ?_) | (with_reducible refine below_drewN ?_ _) | (with_reducible refine Below.setCell ?_ ?_ _; rotate_left; (first | omega | (simp <;> omega))) | (with_reducible refine Below.alloc ?_ ?_ _; rotate_left; (first | omega | (simp <;> omega)))))) _⟩
                          | ((repeat apply Exists.intro); refine ⟨?_, rfl⟩; exact ⟨f + 1, by omega, by go_num, below_drewN ((by repeat (first | (with_reducible exact bXe) | (with_reducible refine Below.drew ?_) | (with_reducible refine below_drewN ?_ _) | (with_reducible refine Below.setCell ?_ ?_ _; rotate_left; (first | omega | (simp <;> omega))) | (with_reducible refine Below.alloc ?_ ?_ _; rotate_left; (first | omega | (simp <;> omega)))))) _⟩)
                      case measure => simp [intOf]; omega
                    · rw [if_neg (fun h => hfj h.2)]
                      have g1 : ((f : Int) == (j : Int)) = false := by simp; omega
                      have g2 : ((f : Int) != (j : Int)) = true := by simp; omega
                      go_wp2
                      go_quiet (fail)
                      go_wp2
                      go_roundw
                      case rel =>
                        first
                          | exact ⟨f + 1, by omega, by go_num, below_drewN ((by repeat (first | (with_reducible exact bXe) | (with_reducible refine Below.drew ?_) | (with_reducible refine below_drewN ?_ _) | (with_reducible refine Below.setCell ?_ ?_ _; rotate_left; (first | omega | (simp <;> omega))) | (with_reducible refine Below.alloc ?_ ?_ _; rotate_left; (first | omega | (simp <;> omega)))))) _⟩
                          | ((repeat apply Exists.intro); refine ⟨?_, rfl⟩; exact ⟨f + 1, by omega, by go_num, below_drewN ((by repeat (first | (with_reducible exact bXe) | (with_reducible refine Below.drew ?_) | (with_reducible refine below_drewN ?_ _) | (with_reducible refine Below.setCell ?_ ?_ _; rotate_left; (first | omega | (simp <;> omega))) | (with_reducible refine Below.alloc ?_ ?_ _; rotate_left; (first | omega | (simp <;> omega)))))) _⟩)
                      case measure => simp [intOf]; omega
                  · have hid : ¬ a.id = o.id := fun h => hmi (valid_same HVP.out HPA.out HPO.out h)
                    have g1 : (a.id == o.id) = false := by simp; exact hid
                    have g2 : (a.id != o.id) = true := by simp; exact hid
                    have g3 : decide (a.id = o.id) = false := by simp; exact hid
                    rw [if_neg (fun h => hmi h.1)]
                    go_wp2
                    go_quiet (fail)
                    go_wp2
                    go_roundw
                    case rel =>
                      first
                        | exact ⟨f + 1, by omega, by go_num, below_drewN ((by repeat (first | (with_reducible exact bXe) | (with_reducible refine Below.drew ?_) | (with_reducible refine below_drewN ?_ _) | (with_reducible refine Below.setCell ?_ ?_ _; rotate_left; (first | omega | (simp <;> omega))) | (with_reducible refine Below.alloc ?_ ?_ _; rotate_left; (first | omega | (simp <;> omega)))))) _⟩
                        | ((repeat apply Exists.intro); refine ⟨?_, rfl⟩; exact ⟨f + 1, by omega, by go_num, below_drewN ((by repeat (first | (with_reducible exact bXe) | (with_reducible refine Below.drew ?_) | (with_reducible refine below_drewN ?_ _) | (with_reducible refine Below.setCell ?_ ?_ _; rotate_left; (first | omega | (simp <;> omega))) | (with_reducible refine Below.alloc ?_ ?_ _; rotate_left; (first | omega | (simp <;> omega)))))) _⟩)
                    case measure => simp [intOf]; omega
                · obtain rfl : f = a.n := by omega
                  go_wp2
                  go_roundw
                  case rel => exact ⟨m + 1, by omega, by go_num, b8q⟩
                  case measure => simp [intOf]; omega
            · obtain rfl : m = n6 := by omega
              have b8r : Below w8.heap.size w8 wr := hbr
              have b1r : Below w1.heap.size w1 wr := b18.trans (hbr.mono b18.size)
              have bwr : Below w.heap.size w wr := bw8.trans (hbr.mono bw8.size)
              obtain ⟨fb, fo, hfA, hflo, hfat⟩ := HOS.out.at_ (by omega)
              have x9 : wr.cell? ⟨w6.heap.size, 0, none⟩ = some (.slice A6 m c6) := (belc b8r (by omega)).trans X8.out
              have y2 : wr.cell? ⟨w4.heap.size, 0, none⟩ = some (.int .i64 o.id) := (belc b8r (by omega)).trans D8.out
              have y3 : wr.cell? ⟨w4.heap.size, 1, none⟩ = some (.slice (some ⟨fb, fo, none⟩) o.n o.c) := by rw [← hfA]; exact (belc b8r (by omega)).trans E8.out
              have y4 : wr.cell? ⟨w.heap.size, 0, none⟩ = some (.slice (some ⟨ab, ao, none⟩) m c) := (belc b8r (by omega)).trans A8.out
              have y5 : wr.cell? ⟨fb, fo + j * 2, none⟩ = some (.bool u.ref) := (belc bwr hflo).trans (hfat j u HU.out 0 _ rfl)
              have y6 : wr.cell? ⟨fb, fo + j * 2 + 1, none⟩ = some (.int .i64 u.n) := (belc bwr hflo).trans (hfat j u HU.out 1 _ rfl)
              have hjnI : (j : Int) < (o.n : Int) := by omega
              have l0 : w6.heap.size < wr.heap.size := by omega
              have l1 : w4.heap.size < wr.heap.size := by omega
              have l2 : w.heap.size < wr.heap.size := by omega
              have l3 : fb < wr.heap.size := by omega
              have HWX := Lib.hid (show wroteL o.id (j : Int) u (l6.map Ob.po) = l.map Ob.po from by
                rw [HP6.out]
                have e1 : ((l.map Ob.po).set i ⟨o.id, o.s.set j v⟩)[i]? = some ⟨o.id, o.s.set j v⟩ := by rw [List.getElem?_set, if_pos rfl, if_pos (by rw [List.length_map, HL.out]; exact hin)]
                have e0 := idx_valid (valid_set (y := ⟨o.id, o.s.set j v⟩) HVP.out HPO.out rfl) e1
                have e2 : (⟨o.id, o.s.set j v⟩ : PO).s[j]? = some v := by show (o.s.set j v)[j]? = _; rw [List.getElem?_set, if_pos rfl, if_pos (by rw [HOS.out.len]; exact hjn)]
                exact (wrote_at (read_at e0 e1 e2).1 e0).trans (back_same HPO.out HU.out))
              have HRX := Lib.hid (show readB o.id (j : Int) (l6.map Ob.po) = true from by
                rw [HP6.out]
                have e1 : ((l.map Ob.po).set i ⟨o.id, o.s.set j v⟩)[i]? = some ⟨o.id, o.s.set j v⟩ := by rw [List.getElem?_set, if_pos rfl, if_pos (by rw [List.length_map, HL.out]; exact hin)]
                have e0 := idx_valid (valid_set (y := ⟨o.id, o.s.set j v⟩) HVP.out HPO.out rfl) e1
                have e2 : (⟨o.id, o.s.set j v⟩ : PO).s[j]? = some v := by show (o.s.set j v)[j]? = _; rw [List.getElem?_set, if_pos rfl, if_pos (by rw [HOS.out.len]; exact hjn)]
                exact (read_at e0 e1 e2).1)
              have HX1 := Lib.hid ((HX8.out.up b8r).up (Below.drew (Below.refl _ _)) : Hp wr.drew wr.drew.heap.size A6 m l6)
              have bA : Below wr.heap.size wr (wr.alloc (.cells #[.slice none 0 0] 24)).drew := Below.drew ((Below.refl _ _).alloc (Nat.le_refl _) _)
              have zA : (wr.alloc (.cells #[.slice none 0 0] 24)).drew.heap.size = wr.heap.size + 1 := by show (wr.alloc _).heap.size = _; simp
              have HX2 := Lib.hid ((HX8.out.up b8r).up bA)
              have HHr := Lib.hid (HH8.out.up b8r)
              have hm' : m ≤ 4398046510976 := hfew
              clear hfat hfA
              go_wp2_with fail
              go_cut [20, 21] (fun s20 s21 wx => s21 = .bool true ∧ Bk wr (l.map Ob.po) s20 wx)
              case first =>
                go_region_held3 (fun w' => w'.cell? ⟨w6.heap.size, 0, none⟩ = some (.slice A6 m c6) ∧ w'.cell? ⟨w4.heap.size, 0, none⟩ = some (.int .i64 o.id) ∧ w'.cell? ⟨w4.heap.size, 1, none⟩ = some (.slice (some ⟨fb, fo, none⟩) o.n o.c) ∧ w'.cell? ⟨fb, fo + j * 2, none⟩ = some (.bool u.ref) ∧ w'.cell? ⟨fb, fo + j * 2 + 1, none⟩ = some (.int .i64 u.n))
                  (first
                    | exact ⟨x9, y2, y3, y5, y6⟩
                    | exact ⟨(by show (wr.alloc _).cell? _ = _; rw [cell_old _ _ _ _ l0]; exact x9), (by show (wr.alloc _).cell? _ = _; rw [cell_old _ _ _ _ l1]; exact y2), (by show (wr.alloc _).cell? _ = _; rw [cell_old _ _ _ _ l1]; exact y3), (by show (wr.alloc _).cell? _ = _; rw [cell_old _ _ _ _ l3]; exact y5), (by show (wr.alloc _).cell? _ = _; rw [cell_old _ _ _ _ l3]; exact y6)⟩
                    | exact ⟨p9, p2, p3, p5, p6⟩
                    | exact ⟨(by rw [set_other _ _ _ _ (by intro e; injection e with e1 e2; omega)]; exact p9), (by rw [set_other _ _ _ _ (by intro e; injection e with e1 e2; omega)]; exact p2), (by rw [set_other _ _ _ _ (by intro e; injection e with e1 e2; omega)]; exact p3), (by rw [set_other _ _ _ _ (by intro e; injection e with e1 e2; omega)]; exact p5), (by rw [set_other _ _ _ _ (by intro e; injection e with e1 e2; omega)]; exact p6)⟩
                    | exact ⟨(by rw [set_other _ _ _ _ (by intro e; injection e with e1 e2; omega), cell_old _ _ _ _ (by omega)]; exact p9), (by rw [set_other _ _ _ _ (by intro e; injection e with e1 e2; omega), cell_old _ _ _ _ (by omega)]; exact p2), (by rw [set_other _ _ _ _ (by intro e; injection e with e1 e2; omega), cell_old _ _ _ _ (by omega)]; exact p3), (by rw [set_other _ _ _ _ (by intro e; injection e with e1 e2; omega), cell_old _ _ _ _ (by omega)]; exact p5), (by rw [set_other _ _ _ _ (by intro e; injection e with e1 e2; omega), cell_old _ _ _ _ (by omega)]; exact p6)⟩
                    | exact ⟨(by show (Y.alloc _).cell? _ = _; rw [cell_old _ _ _ _ (by omega)]; exact p9), (by show (Y.alloc _).cell? _ = _; rw [cell_old _ _ _ _ (by omega)]; exact p2), (by show (Y.alloc _).cell? _ = _; rw [cell_old _ _ _ _ (by omega)]; exact p3), (by show (Y.alloc _).cell? _ = _; rw [cell_old _ _ _ _ (by omega)]; exact p5), (by show (Y.alloc _).cell? _ = _; rw [cell_old _ _ _ _ (by omega)]; exact p6)⟩)
                  (first
                    | (go_at_call 13; refine (write_any A6 m c6 l6 o.id (j : Int) u wr.drew HX1.out hm').mono ?_; rintro e Y ⟨Aq, nq, cq, lq, rfl, hpq, hnq, hHq, hFq, hbY⟩; rw [HRX.out]; rw [HWX.out] at hpq hnq; have hbY2 : Below wr.heap.size wr Y := (Below.drew (Below.refl _ _)).trans hbY; have HNQ := Lib.hid hnq; clear hnq; have p9 := (belc hbY2 l0).trans x9; have p2 := (belc hbY2 l1).trans y2; have p3 := (belc hbY2 l1).trans y3; have p5 := (belc hbY2 l3).trans y5; have p6 := (belc hbY2 l3).trans y6; have hzY := hbY2.size)
                    | (go_at_call 13; refine (write_any A6 m c6 l6 o.id (j : Int) u (wr.alloc (.cells #[.slice none 0 0] 24)).drew HX2.out hm').mono ?_; rintro e Y ⟨Aq, nq, cq, lq, rfl, hpq, hnq, hHq, hFq, hbY⟩; rw [HRX.out]; rw [HWX.out] at hpq hnq; have hbY2 : Below wr.heap.size wr Y := bA.trans (hbY.mono (by rw [zA]; omega)); have HNQ := Lib.hid hnq; clear hnq; have z0 : Y.cell? ⟨wr.heap.size, 0, none⟩ = some (.slice none 0 0) := ((belc hbY (by rw [zA]; omega)).trans (by show (wr.alloc _).cell? _ = _; rw [cell_new _ _ _ _ _ rfl]; rfl)); have z1 : Y.frozen? ⟨wr.heap.size, 0, none⟩ = false := ((belf hbY (by rw [zA]; omega)).trans (by show (wr.alloc _).frozen? _ = _; rw [frozen_new _ _ _ _ _ rfl])); have p9 := (belc hbY2 l0).trans x9; have p2 := (belc hbY2 l1).trans y2; have p3 := (belc hbY2 l1).trans y3; have p5 := (belc hbY2 l3).trans y5; have p6 := (belc hbY2 l3).trans y6; have hzY := hbY2.size))
                all_goals
                  go_wp2_with fail
                  go_meet
                  refine ⟨rfl, ?_⟩
                  first
                    | exact Bk.after hbY2 hHq hpq HNQ
                    | exact Bk.before (V := (wr.alloc (.cells #[.slice none 0 0] 24)).drew) zA (Nat.le_refl _) hbY2 z0 hHq hFq hpq HNQ
              case rest =>
                obtain ⟨rfl, g, Aq, nq, cq, lq, rfl, g0, hnq, hHq, hlq, hbx⟩ := hcut
                rename World => wx
                have hzx := hbx.size
                have m4 : wx.cell? ⟨w.heap.size, 0, none⟩ = some (.slice (some ⟨ab, ao, none⟩) m c) := (belc hbx l2).trans y4
                have HHx := Lib.hid (HHr.out.up hbx)
                have hnq2 : nq ≤ 4398046510976 := by rw [hnq.out, List.length_map, HL.out]; exact hm'
                have bwx : Below w.heap.size w wx := bwr.trans (hbx.mono bwr.size)
                clear x9 y2 y3 y4 y5 y6
                go_wp2_with fail
                refine (same_any Aq nq cq lq (some ⟨ab, ao, none⟩) m c l wx hHq.out HHx.out (by omega) (by omega)).mono ?_
                rintro e y1 ⟨rfl, hy1⟩
                rw [hlq.out, decide_eq_true rfl]
                have bwy : Below w.heap.size w y1 := bwx.trans (hy1.mono bwx.size)
                go_wp2
                go_ret
                exact ⟨rfl, bwy⟩
end Go.Proofs.Ytohflngcgmcllaa
