/- The reference's Train. -/
import Derived.Test.YteeglmlmconbmaaD
import Derived.Test.YteeglmlmconbmaaKit3
namespace Go.Proofs.Yteeglmlmconbmaa
open Go.RowKit

/-- What a call leaves that gives these pairs, perhaps its own argument's. -/
def GivesR (ts' : List Pr) (w : World) (e : Ending) (w' : World) : Prop := ∃ A' n' c', e = .returned (.agg #[.slice A' n' c']) ∧ Sl w' w'.heap.size 3 Pr.cells A' n' ts' ∧ Below w.heap.size w w' ∧ n' ≤ c' ∧ (n' = 0 → A' = none ∧ c' = 0)
theorem take_next {ts : List Pr} {k : Nat} {x : Pr} (hx : ts[k]? = some x) : ts.take k ++ [x] = ts.take (k + 1) := by rw [List.take_add_one, hx]; rfl
theorem modify_take {ts : List Pr} {k : Nat} {x : Pr} {f : Pr → Pr} (hx : ts[k]? = some x) : ts.modify k f = ts.take k ++ [f x] ++ ts.drop (k + 1) := by
  rw [List.modify_eq_take_cons_drop (List.getElem?_eq_some_iff.1 hx).1]
  obtain ⟨h, e⟩ := List.getElem?_eq_some_iff.1 hx
  simp [e]

theorem more2 {w4 w5 : World} {base n sz : Nat} {e : TypeId} {v : Value} {xs : List Value} (hown : w4.ownsRow base e sz v n xs) (hb : base ≤ w4.heap.size) (hg : w4.grownBy w5 v.ownBlock) : Below base w4 w5 :=
  (Below.refl _ _).grown hg hb (fun k hk => (hown.lt k hk).1)

set_option maxRecDepth 100000 in
set_option maxHeartbeats 4000000 in
theorem reftrain_any (A : Option Addr) (n c : Nat) (ts : List Pr) (a b : Int) (w : World) (hs : Sl w w.heap.size 3 Pr.cells A n ts) (hn : n ≤ 900000) (hgood : Good ts) (hcap : n ≤ c) (hA : n = 0 → A = none ∧ c = 0) :
    Calls Try.prog 8 #[.agg #[.slice A n c], .int .i64 a, .int .i64 b] w (GivesR (train ts a b) w) := by
  obtain ⟨i0, hi, hz0, hz1, hz2⟩ := info_parts CloneTrk.infoE
  have hgood2 := hgood.2
  have HGD := Lib.hid hgood2
  have HRM := Lib.hid (show n ≤ c ∧ (n = 0 → A = none ∧ c = 0) from ⟨hcap, hA⟩)
  have HL := Lib.hid hs.len
  have HSR := Lib.hid hs
  clear hgood hgood2 hcap hA
  obtain ⟨W, hW⟩ : ∃ W, W = ((w.alloc (.cells #[.slice A n c] 25)).alloc (.cells #[.slice none 0 0] 25)).alloc (.cells #[.slice none 0 0] 25) := ⟨_, rfl⟩
  have hWb : Below w.heap.size w W := by rw [hW]; exact (by repeat (first | (with_reducible exact (Below.refl _ _)) | (with_reducible refine Below.drew ?_) | (with_reducible refine below_drewN ?_ _) | (with_reducible refine Below.setCell ?_ ?_ _; rotate_left; (first | omega | (simp <;> omega))) | (with_reducible refine Below.alloc ?_ ?_ _; rotate_left; (first | omega | (simp <;> omega)))))
  have hWz : W.heap.size = w.heap.size + 3 := by rw [hW]; simp
  have q0 : W.cell? ⟨w.heap.size, 0, none⟩ = some (.slice A n c) := (by rw [hW, cell_old _ _ _ _ (by simp <;> omega), cell_old _ _ _ _ (by simp <;> omega), cell_new _ _ _ _ _ (by simp <;> omega)]; rfl)
  have q6 : W.cell? ⟨w.heap.size + 1, 0, none⟩ = some (.slice none 0 0) := (by rw [hW, cell_old _ _ _ _ (by simp <;> omega), cell_new _ _ _ _ _ (by simp <;> omega)]; rfl)
  have q6f : W.frozen? ⟨w.heap.size + 1, 0, none⟩ = false := (by rw [hW, frozen_old _ _ _ _ (by simp <;> omega), frozen_new _ _ _ _ _ (by simp <;> omega)])
  have q7 : W.cell? ⟨w.heap.size + 2, 0, none⟩ = some (.slice none 0 0) := (by rw [hW, cell_new _ _ _ _ _ (by simp <;> omega)]; rfl)
  have q7f : W.frozen? ⟨w.heap.size + 2, 0, none⟩ = false := (by rw [hW, frozen_new _ _ _ _ _ (by simp <;> omega)])
  have HQ := Lib.hid (show W.cell? ⟨w.heap.size, 0, none⟩ = some (.slice A n c) ∧ W.cell? ⟨w.heap.size + 1, 0, none⟩ = some (.slice none 0 0) ∧ W.frozen? ⟨w.heap.size + 1, 0, none⟩ = false from ⟨q0, q6, q6f⟩)
  have HO0 : Hid (Out W (w.heap.size + 3) (w.heap.size + 2) (.slice none 0 0) []) := Lib.hid ⟨q7, q7f, World.ownsRow_nil _ _ _ _, by omega, by omega⟩
  have HWB := Lib.hid hWb
  have HZ := Lib.hid hWz
  clear q0 q6 q6f q7 q7f hWb hWz
  go_enter Try.func8, Try.ntmps8
  go_wp2_with fail
  rw [← hW]
  clear hW
  go_loopw [8] (fun i wr => ∃ (k : Nat) (v : Value), k ≤ n ∧ i = .int .i64 k ∧ Hid (Out wr (w.heap.size + 3) (w.heap.size + 2) v (ts.take k)) ∧ Hid (∀ (j : Nat) (u : Pr), j < k → ts[j]? = some u → Bef u a b) ∧ Hid (Below (w.heap.size + 2) W wr)) (fun i _ => n - (intOf i).toNat)
  case atStart => exact ⟨0, _, Nat.zero_le _, rfl, HO0, Lib.hid (fun j u h => absurd h (by omega)), Lib.hid (Below.refl _ _)⟩
  case round =>
    obtain ⟨k, v, hk, rfl, hO, hlow, hb⟩ := hrel
    have r0 : wr.cell? ⟨w.heap.size, 0, none⟩ = some (.slice A n c) := (belc hb.out (by omega)).trans HQ.out.1
    have HR := Lib.hid (show Below w.heap.size w wr from HWB.out.trans (hb.out.mono (by omega)))
    obtain ⟨g, hg⟩ : ∃ g : Bool, g = decide (k < n ∧ ∀ x, ts[k]? = some x → Bef x a b) := ⟨_, rfl⟩
    have HG := Lib.hid hg
    have hlr : w.heap.size + 3 ≤ wr.heap.size := hO.out.le
    clear hg
    go_upto_region 3 with fail
    go_cut [23] (fun s wx => s = .bool g ∧ Hid (Below wr.heap.size wr wx))
    case first =>
      by_cases hlt : k < n
      · obtain ⟨ab, ao, rfl, hlo, hat⟩ := hs.at_ (by omega)
        obtain ⟨x, hx⟩ : ∃ x, ts[k]? = some x := ⟨_, List.getElem?_eq_getElem (by rw [HL.out]; exact hlt)⟩
        have c0 : wr.cell? ⟨ab, ao + k * 3, none⟩ = some (.int .i64 x.a) := (belc HR.out hlo).trans (hat k x hx 0 _ rfl)
        have c1 : wr.cell? ⟨ab, ao + k * 3 + 1, none⟩ = some (.int .i64 x.b) := (belc HR.out hlo).trans (hat k x hx 1 _ rfl)
        have c2 : wr.cell? ⟨ab, ao + k * 3 + 2, none⟩ = some (.int .i64 x.cnt) := (belc HR.out hlo).trans (hat k x hx 2 _ rfl)
        have HGE := Lib.hid (show g = decide (Bef x a b) from by rw [HG.out]; simp [hlt, hx])
        clear hat hx
        go_wp2_with fail
        refine (less_any x a b _).mono ?_
        rintro e w1 ⟨rfl, hb1⟩
        go_wp2
        go_meet
        exact ⟨by rw [HGE.out], Lib.hid hb1⟩
      · have HGE := Lib.hid (show g = false from by rw [HG.out]; simp [hlt])
        go_wp2
        go_meet
        exact ⟨by rw [HGE.out], Lib.hid (Below.refl _ _)⟩
    case rest =>
      obtain ⟨rfl, hcb⟩ := hcut
      rename World => w1
      have hzz := hcb.out.size
      have hO1 := Lib.hid (hO.out.below hcb.out)
      have HR1 := Lib.hid (HR.out.trans (hcb.out.mono HR.out.size))
      have HB1 := Lib.hid (hb.out.trans (hcb.out.mono (by omega)))
      have HQ1 := Lib.hid (show w1.cell? ⟨w.heap.size, 0, none⟩ = some (.slice A n c) ∧ w1.cell? ⟨w.heap.size + 1, 0, none⟩ = some (.slice none 0 0) ∧ w1.frozen? ⟨w.heap.size + 1, 0, none⟩ = false from ⟨(belc HB1.out (by omega)).trans HQ.out.1, (belc HB1.out (by omega)).trans HQ.out.2.1, (belf HB1.out (by omega)).trans HQ.out.2.2⟩)
      have hl1 : w.heap.size + 3 ≤ w1.heap.size := by omega
      clear r0 hO hb hcb HR HWB
      have s0 := HQ1.out.1
      have s7 := hO1.out.cell
      have s7f := hO1.out.fr
      have hl2 : w.heap.size + 2 < w1.heap.size := by omega
      have hl0 : w.heap.size < w1.heap.size := by omega
      obtain ⟨l, hl⟩ : ∃ l, l = ts.take k := ⟨_, rfl⟩
      rw [← hl] at hO1
      have HLL := Lib.hid hl
      have HLK := Lib.hid (show l.length = k from by rw [hl, List.length_take]; have := HL.out; omega)
      clear hl
      cases g
      · have HLB := Lib.hid (show lowb ts a b = k from lowb_of (by rw [HL.out]; exact hk) hlow.out (fun t ht hbf => by
          have hkn : k < n := by rw [← HL.out]; exact (List.getElem?_eq_some_iff.1 ht).1
          have h1 := HG.out.symm
          simp only [decide_eq_false_iff_not] at h1
          exact h1 ⟨hkn, fun x hx => by rw [ht] at hx; injection hx with hx; subst hx; exact hbf⟩))
        have HSL := Lib.hid (fun j (hj : j ≤ n) => fun w' => slice_low (P := Try.prog) (t := 23) (e := 28) (i := i0) Try.underlying23 hi (A := A) (n := n) (c := c) (k := j) hj w')
        have hI3 : i0.size = 3 := hz1
        have HSC := Lib.hid (fun (j : Nat) (w' : World) (hb' : Below w.heap.size w w') => (Sl.src_low (k := j) (HSR.out.below hb') Pr.size HRM.out.1))
        by_cases hh : hit ts a b = true
        · obtain ⟨t, ht, hta, htb⟩ := hit_some hh
          rw [HLB.out] at ht
          have hlt : k < n := by rw [← HL.out]; exact (List.getElem?_eq_some_iff.1 ht).1
          have HTR := Lib.hid (show train ts a b = (l ++ [upd t]) ++ ts.drop (k + 1) from by rw [train, hh, if_pos rfl, HLB.out, modify_take ht, HLL.out])
          have hsum : IntKind.i64.wrap ((k : Int) + 1) = (k : Int) + 1 := by rw [IntKind.wrap_i64]; omega
          have hle0 : (0 : Int) ≤ (k : Int) + 1 := by omega
          have hle1 : (k : Int) + 1 ≤ (n : Int) := by omega
          have hton : ((k : Int) + 1).toNat = k + 1 := by omega
          have HLD := Lib.hid (show ((ts.drop (k + 1)).flatMap Pr.cells).length = (n - (k + 1)) * 3 from by rw [flat_len Pr.size, List.length_drop, HL.out])
          obtain ⟨hsb0, hsb1⟩ := HGD.out k t ht
          obtain ⟨ab, ao, hAe, hlo, hat⟩ := hs.at_ (by omega)
          have c0 : w1.cell? ⟨ab, ao + k * 3, none⟩ = some (.int .i64 a) := (belc HR1.out hlo).trans (hta ▸ hat k t ht 0 _ rfl)
          have c1 : w1.cell? ⟨ab, ao + k * 3 + 1, none⟩ = some (.int .i64 b) := (belc HR1.out hlo).trans (htb ▸ hat k t ht 1 _ rfl)
          have c2 : w1.cell? ⟨ab, ao + k * 3 + 2, none⟩ = some (.int .i64 t.cnt) := (belc HR1.out hlo).trans (hat k t ht 2 _ rfl)
          have HX := Lib.hid ht
          obtain ⟨z, hz⟩ : ∃ z, z = IntKind.i64.wrap ((if 1048575 < t.cnt then 1048575 else t.cnt) + 1) := ⟨_, rfl⟩
          have hcl : ab < w1.heap.size := Nat.lt_of_lt_of_le hlo HR1.out.size
          have HZ := Lib.hid hz
          have hup : upd t = ⟨a, b, z⟩ := by
            rw [hz, IntKind.wrap_i64]
            unfold upd
            rw [hta, htb]
            congr 1
            split <;> split <;> omega
          have HUP := Lib.hid hup
          subst hAe
          have hca : cutA (some ⟨ab, ao, none⟩) c (k + 1) 3 = if c = k + 1 then some ⟨ab, ao, none⟩ else some ⟨ab, ao + (k + 1) * 3, none⟩ := by unfold cutA Addr.add; simp
          have HSC1 := Lib.hid (fun (w' : World) (hb' : Below w.heap.size w w') => hca ▸ HSC.out (k + 1) w' hb')
          clear hca
          clear hat ht hta htb hup hh hz
          go_upto_region 7 with fail
          go_cut [] (fun wx => Hid (∃ v', Out wx (w.heap.size + 3) (w.heap.size + 2) v' (l ++ [⟨a, b, z⟩]) ∧ Below (w.heap.size + 2) w1 wx))
          case first =>
            go_region_law (rw [← HZ.out]; refine step_append_any rfl (.tmp 62) (.tmp 74) 23 rfl (w.heap.size + 3) 28 i0 _ 3 24 Try.underlying23 hi hz0 hz1 hz2 rfl (by decide) v l.length (l.flatMap Pr.cells) (by simp [Act.eval]) (own_below hO1.out.own (Below.drew ((Below.refl _ _).alloc (Nat.le_refl _) _))) (some ⟨w1.heap.size, 0, none⟩) 1 1 (Pr.cells ⟨a, b, z⟩) (by simp [Act.eval]) (by intro h; cases h) rfl (news_new w1 a b z) (by simp [Pr.cells, Value.oneCell']) (by have := HLK.out; unfold maxLen; omega) (by have := HLK.out; omega) (by rw [show ∀ o, ((w1.alloc o).drew).heap.size = w1.heap.size + 1 from fun o => by show (w1.alloc _).heap.size = _; simp]; omega) ?_; intro A3 c3 w3 hown3 hgr3 _; have hnx := hO1.out.next ⟨a, b, z⟩ hown3 hgr3; have u7 := hnx.2.1; have u7f := hnx.2.2.1)
            all_goals
              have HNX := Lib.hid hnx
              clear hnx hgr3 hown3
              go_wp2
              all_goals
                go_meet
                exact Lib.hid ⟨_, HNX.out.1, (HNX.out.2.2.2.mono (by omega)).setCell (by show _ ≤ _; simp) _⟩
          case rest =>
            rename World => w3
            obtain ⟨v3, hO3, hB3⟩ := hcut.out
            have HO3 := Lib.hid hO3
            have HB3 := Lib.hid hB3
            have u7 := hO3.cell
            have u7f := hO3.fr
            have hzz3 := hB3.size
            have hl30 : w.heap.size < w3.heap.size := by omega
            have hl31 : w.heap.size + 1 < w3.heap.size := by omega
            have hl32 : w.heap.size + 2 < w3.heap.size := by omega
            have u0 := (belc hB3 (b := w.heap.size) (o := 0) (by omega)).trans HQ1.out.1
            have u1 := (belc hB3 (b := w.heap.size + 1) (o := 0) (by omega)).trans HQ1.out.2.1
            have u1f := (belf hB3 (b := w.heap.size + 1) (o := 0) (by omega)).trans HQ1.out.2.2
            have HR3 := Lib.hid (HR1.out.trans (hB3.mono (by omega)))
            obtain ⟨l3, hl3⟩ : ∃ l3, l3 = l ++ [(⟨a, b, z⟩ : Pr)] := ⟨_, rfl⟩
            rw [← hl3] at HO3
            have HL3 := Lib.hid hl3
            have HLK3 := Lib.hid (show l3.length = k + 1 from by rw [hl3, List.length_append, HLK.out]; rfl)
            clear hcut hO3 hB3 hl3 c0 c1 c2 s0 s7 s7f
            go_wp2
            go_region_law (refine step_append_any rfl (.tmp 78) (.tmp 83) 23 rfl (w.heap.size + 3) 28 i0 _ 3 24 Try.underlying23 hi hz0 hz1 hz2 rfl (by decide) v3 l3.length (l3.flatMap Pr.cells) (by simp [Act.eval, Act.put]) HO3.out.own (if c = k + 1 then some ⟨ab, ao, none⟩ else some ⟨ab, ao + (k + 1) * 3, none⟩) (n - (k + 1)) (c - (k + 1)) ((ts.drop (k + 1)).flatMap Pr.cells) (by simp [Act.eval, Act.put]) (HSC1.out _ (Below.drew HR3.out)).1 HLD.out (HSC1.out _ (Below.drew HR3.out)).2 (by intro u hu; exact one_cells _ u hu) (by have := HLK3.out; unfold maxLen; omega) (by have := HLK3.out; omega) (by have := HO3.out.le; show _ ≤ w3.heap.size; omega) ?_; intro A5 c5 w5 hown5 hgr5 _; have hmo := HO3.out.more ((Below.refl _ _).drew) hgr5; have v7 := hmo.1; have v7f := hmo.2.1; have hb5 := hmo.2.2; have v1 := (belc hb5 (b := w.heap.size + 1) (o := 0) (by omega)).trans u1; have v1f := (belf hb5 (b := w.heap.size + 1) (o := 0) (by omega)).trans u1f)
            all_goals
              have HW5 := Lib.hid hown5
              have hbw : Below w.heap.size w w5 := HR3.out.trans (hb5.mono (by omega))
              have HLT := Lib.hid (show (train ts a b).length = l3.length + (n - (k + 1)) from by rw [HTR.out, HUP.out, ← HL3.out, List.length_append, List.length_drop, HL.out])
              have HFT := Lib.hid (show l3.flatMap Pr.cells ++ (ts.drop (k + 1)).flatMap Pr.cells = (train ts a b).flatMap Pr.cells from by rw [HTR.out, HUP.out, ← HL3.out, List.flatMap_append])
              clear hown5 hgr5 hmo
              go_wp2
              all_goals
                refine bodyPost_ret (v := .agg #[.slice A5 (l3.length + (n - (k + 1))) c5]) (by simp [results, Try.results8, go_sem, v7, v7f, v1, v1f]) rfl ⟨A5, _, c5, rfl, ?_, (by repeat (first | (with_reducible exact hbw) | (with_reducible refine Below.drew ?_) | (with_reducible refine below_drewN ?_ _) | (with_reducible refine Below.setCell ?_ ?_ _; rotate_left; (first | omega | (simp <;> omega))) | (with_reducible refine Below.alloc ?_ ?_ _; rotate_left; (first | omega | (simp <;> omega))))), (own_room HW5.out).1, fun h0 => absurd h0 (by have := HLK3.out; omega)⟩
                have h5 := HW5.out
                rw [HFT.out] at h5
                exact Sl.of_own Pr.size HLT.out (own_setCell (own_setCell h5 _ (fun e => by have := h5.lt _ e; first | omega | (simp at this <;> omega))) _ (fun e => by have := h5.lt _ e; first | omega | (simp at this <;> omega)))
        · have hh : hit ts a b = false := by simpa using hh
          have HH := Lib.hid hh
          have hnil := HRM.out.2
          go_upto_region 6 with fail
          go_cut [60] (fun s wx => s = .bool false ∧ wx = w1)
          case first =>
            by_cases hlt : k < n
            · obtain ⟨ab, ao, hAe, hlo, hat⟩ := hs.at_ (by omega)
              obtain ⟨t, ht⟩ : ∃ t, ts[k]? = some t := ⟨_, List.getElem?_eq_getElem (by rw [HL.out]; exact hlt)⟩
              have c0 : w1.cell? ⟨ab, ao + k * 3, none⟩ = some (.int .i64 t.a) := (belc HR1.out hlo).trans (hat k t ht 0 _ rfl)
              have c1 : w1.cell? ⟨ab, ao + k * 3 + 1, none⟩ = some (.int .i64 t.b) := (belc HR1.out hlo).trans (hat k t ht 1 _ rfl)
              have hisb : isB t a b = false := by rw [← hit_at (by rw [HLB.out]; exact ht)]; exact hh
              clear hat hnil hh ht
              subst hAe
              by_cases ha : t.a = a
              · have g1 : (t.a == a) = true := by simpa using ha
                have g2 : (t.b == b) = false := by unfold isB at hisb; rw [g1] at hisb; simpa using hisb
                clear hisb ha
                go_wp2
                go_meet
                exact ⟨rfl, rfl⟩
              · have g1 : (t.a == a) = false := by simpa using ha
                clear hisb ha
                go_wp2
                go_meet
                exact ⟨rfl, rfl⟩
            · clear hnil hh
              go_wp2
              go_meet
              exact ⟨rfl, rfl⟩
          case rest =>
            obtain ⟨rfl, e⟩ := hcut
            have e := e.symm
            subst e
            have hlen := HL.out
            by_cases h256 : n < 256
            · have hlt256 : ¬ (256 : Int) ≤ (n : Int) := by omega
              have HTR := Lib.hid (show train ts a b = l ++ (⟨a, b, 1⟩ :: ts.drop k) from by rw [train, HH.out, HLB.out, HLL.out, hlen, if_neg (by simp), if_pos h256])
              have HLD := Lib.hid (show ((ts.drop k).flatMap Pr.cells).length = (n - k) * 3 from by rw [flat_len Pr.size, List.length_drop, HL.out])
              have HN := Lib.hid (show n = 0 ∨ 0 < n from by omega)
              have HLT := Lib.hid (show (train ts a b).length = l.length + 1 + (n - k) from by rw [HTR.out, List.length_append, List.length_cons, List.length_drop, HL.out]; omega)
              have HFT := Lib.hid (show l.flatMap Pr.cells ++ Pr.cells ⟨a, b, 1⟩ ++ (ts.drop k).flatMap Pr.cells = (train ts a b).flatMap Pr.cells from by rw [HTR.out]; simp)
              have hle1 : (k : Int) ≤ (n : Int) := by omega
              clear hnil hlen hh
              have s1 := HQ1.out.2.1
              have s1f := HQ1.out.2.2
              rcases HN.out with h0 | h0
              · obtain ⟨hA, hc⟩ := HRM.out.2 h0
                obtain rfl : k = 0 := by omega
                subst h0 hA hc
                go_wp2
                go_region_law (first
                  | (refine step_append_any rfl (.tmp 93) (.tmp 97) 23 rfl (w.heap.size + 3) 28 i0 _ 3 24 Try.underlying23 hi hz0 hz1 hz2 rfl (by decide) v l.length (l.flatMap Pr.cells) (by simp [Act.eval, Act.put]) (own_below hO1.out.own (Below.drew ((Below.refl _ _).alloc (Nat.le_refl _) _))) (some ⟨w1.heap.size, 0, none⟩) 1 1 (Pr.cells ⟨a, b, 1⟩) (by simp [Act.eval, Act.put]) (by intro h; cases h) rfl (news_new w1 a b 1) (by simp [Pr.cells, Value.oneCell']) (by have := HLK.out; unfold maxLen; omega) (by have := HLK.out; omega) (by rw [show ∀ o, ((w1.alloc o).drew).heap.size = w1.heap.size + 1 from fun o => by show (w1.alloc _).heap.size = _; simp]; omega) ?_; intro A4 c4 w4 hown4 hgr4 _; have hmo := hO1.out.more (Below.drew ((Below.refl _ _).alloc (Nat.le_refl _) _)) hgr4; have hb4 := hmo.2.2; have hs4 := hb4.size; have t0 := (belc hb4 (b := w.heap.size) (o := 0) (by omega)).trans s0; have HR4 := Lib.hid (HR1.out.trans (hb4.mono (by omega))))
                  | (refine step_append_any rfl (.tmp 98) (.tmp 102) 23 rfl (w.heap.size + 3) 28 i0 _ 3 24 Try.underlying23 hi hz0 hz1 hz2 rfl (by decide) (.slice A4 (l.length + 1) c4) (l.length + 1) _ (by simp [Act.eval, Act.put]) hown4 none (0 - 0) (0) ((ts.drop 0).flatMap Pr.cells) (by simp [Act.eval, Act.put]) (fun _ => rfl) HLD.out (fun ad h => by cases h) (by intro u hu; exact one_cells _ u hu) (by have := HLK.out; unfold maxLen; omega) (by have := HLK.out; omega) (by omega) ?_; intro A5 c5 w5 hown5 hgr5 _; have hb5 := more2 hown4 (by omega) hgr5; have hb15 := hb4.trans hb5; have v7 := (belc hb5 (b := w.heap.size + 2) (o := 0) (by omega)).trans hmo.1; have v7f := (belf hb5 (b := w.heap.size + 2) (o := 0) (by omega)).trans hmo.2.1; have v1 := (belc hb15 (b := w.heap.size + 1) (o := 0) (by omega)).trans s1; have v1f := (belf hb15 (b := w.heap.size + 1) (o := 0) (by omega)).trans s1f))
                all_goals
                  have HW5 := Lib.hid hown5
                  have hbw : Below w.heap.size w w5 := HR4.out.trans (hb5.mono (by omega))
                  clear hown5 hgr5 hgr4 hown4
                  go_wp2
                  all_goals
                    refine bodyPost_ret (v := .agg #[.slice A5 (l.length + 1 + (0 - 0)) c5]) (by simp [results, Try.results8, go_sem, v7, v7f, v1, v1f]) rfl ⟨A5, _, c5, rfl, ?_, (by repeat (first | (with_reducible exact hbw) | (with_reducible refine Below.drew ?_) | (with_reducible refine below_drewN ?_ _) | (with_reducible refine Below.setCell ?_ ?_ _; rotate_left; (first | omega | (simp <;> omega))) | (with_reducible refine Below.alloc ?_ ?_ _; rotate_left; (first | omega | (simp <;> omega))))), (own_room HW5.out).1, fun h0 => absurd h0 (by omega)⟩
                    have h5 := HW5.out
                    rw [HFT.out] at h5
                    exact Sl.of_own Pr.size HLT.out (own_setCell (own_setCell h5 _ (fun e => by have := h5.lt _ e; first | omega | (simp at this <;> omega))) _ (fun e => by have := h5.lt _ e; first | omega | (simp at this <;> omega)))
              · obtain ⟨ab, ao, hAe, hlo, hat⟩ := hs.at_ h0
                subst hAe
                have hca : cutA (some ⟨ab, ao, none⟩) c k 3 = if c = k then some ⟨ab, ao, none⟩ else some ⟨ab, ao + k * 3, none⟩ := by unfold cutA; simp [Addr.add_lit]
                have HSC1 := Lib.hid (fun (w' : World) (hb' : Below w.heap.size w w') => hca ▸ HSC.out k w' hb')
                clear hca hat
                go_wp2
                go_region_law (first
                  | (refine step_append_any rfl (.tmp 93) (.tmp 97) 23 rfl (w.heap.size + 3) 28 i0 _ 3 24 Try.underlying23 hi hz0 hz1 hz2 rfl (by decide) v l.length (l.flatMap Pr.cells) (by simp [Act.eval, Act.put]) (own_below hO1.out.own (Below.drew ((Below.refl _ _).alloc (Nat.le_refl _) _))) (some ⟨w1.heap.size, 0, none⟩) 1 1 (Pr.cells ⟨a, b, 1⟩) (by simp [Act.eval, Act.put]) (by intro h; cases h) rfl (news_new w1 a b 1) (by simp [Pr.cells, Value.oneCell']) (by have := HLK.out; unfold maxLen; omega) (by have := HLK.out; omega) (by rw [show ∀ o, ((w1.alloc o).drew).heap.size = w1.heap.size + 1 from fun o => by show (w1.alloc _).heap.size = _; simp]; omega) ?_; intro A4 c4 w4 hown4 hgr4 _; have hmo := hO1.out.more (Below.drew ((Below.refl _ _).alloc (Nat.le_refl _) _)) hgr4; have hb4 := hmo.2.2; have hs4 := hb4.size; have t0 := (belc hb4 (b := w.heap.size) (o := 0) (by omega)).trans s0; have HR4 := Lib.hid (HR1.out.trans (hb4.mono (by omega))))
                  | (refine step_append_any rfl (.tmp 98) (.tmp 102) 23 rfl (w.heap.size + 3) 28 i0 _ 3 24 Try.underlying23 hi hz0 hz1 hz2 rfl (by decide) (.slice A4 (l.length + 1) c4) (l.length + 1) _ (by simp [Act.eval, Act.put]) hown4 (if c = k then some ⟨ab, ao, none⟩ else some ⟨ab, ao + k * 3, none⟩) (n - k) (c - k) ((ts.drop k).flatMap Pr.cells) (by simp [Act.eval, Act.put]) (HSC1.out _ HR4.out).1 HLD.out (HSC1.out _ HR4.out).2 (by intro u hu; exact one_cells _ u hu) (by have := HLK.out; unfold maxLen; omega) (by have := HLK.out; omega) (by omega) ?_; intro A5 c5 w5 hown5 hgr5 _; have hb5 := more2 hown4 (by omega) hgr5; have hb15 := hb4.trans hb5; have v7 := (belc hb5 (b := w.heap.size + 2) (o := 0) (by omega)).trans hmo.1; have v7f := (belf hb5 (b := w.heap.size + 2) (o := 0) (by omega)).trans hmo.2.1; have v1 := (belc hb15 (b := w.heap.size + 1) (o := 0) (by omega)).trans s1; have v1f := (belf hb15 (b := w.heap.size + 1) (o := 0) (by omega)).trans s1f))
                all_goals
                  have HW5 := Lib.hid hown5
                  have hbw : Below w.heap.size w w5 := HR4.out.trans (hb5.mono (by omega))
                  clear hown5 hgr5 hgr4 hown4
                  go_wp2
                  all_goals
                    refine bodyPost_ret (v := .agg #[.slice A5 (l.length + 1 + (n - k)) c5]) (by simp [results, Try.results8, go_sem, v7, v7f, v1, v1f]) rfl ⟨A5, _, c5, rfl, ?_, (by repeat (first | (with_reducible exact hbw) | (with_reducible refine Below.drew ?_) | (with_reducible refine below_drewN ?_ _) | (with_reducible refine Below.setCell ?_ ?_ _; rotate_left; (first | omega | (simp <;> omega))) | (with_reducible refine Below.alloc ?_ ?_ _; rotate_left; (first | omega | (simp <;> omega))))), (own_room HW5.out).1, fun h0 => absurd h0 (by omega)⟩
                    have h5 := HW5.out
                    rw [HFT.out] at h5
                    exact Sl.of_own Pr.size HLT.out (own_setCell (own_setCell h5 _ (fun e => by have := h5.lt _ e; first | omega | (simp at this <;> omega))) _ (fun e => by have := h5.lt _ e; first | omega | (simp at this <;> omega)))
            · have h256I : (256 : Int) ≤ (n : Int) := by omega
              have HTR := Lib.hid (show train ts a b = ts from by rw [train, HH.out, if_neg (by simp), if_neg (by rw [hlen]; exact h256)])
              have s1 := HQ1.out.2.1
              have s1f := HQ1.out.2.2
              clear hnil hlen hh
              go_wp2
              refine bodyPost_ret (v := .agg #[.slice A n c]) (by simp [results, Try.results8, go_sem, s0, s1, s1f]) rfl ⟨A, n, c, rfl, ?_, (by repeat (first | (with_reducible exact HR1.out) | (with_reducible refine Below.drew ?_) | (with_reducible refine below_drewN ?_ _) | (with_reducible refine Below.setCell ?_ ?_ _; rotate_left; (first | omega | (simp <;> omega))) | (with_reducible refine Below.alloc ?_ ?_ _; rotate_left; (first | omega | (simp <;> omega))))), HRM.out.1, HRM.out.2⟩
              rw [HTR.out]
              exact ((HSR.out.below HR1.out).set (p := ⟨w.heap.size + 1, 0, none⟩) (fun ad had => by
                obtain ⟨ab, ao, e, hlo, _⟩ := HSR.out.at_ (by omega)
                rw [had] at e
                injection e with e
                subst e
                show ab ≠ w.heap.size + 1
                omega) _).mono (by simp; omega)
      · obtain ⟨hlt, hbef⟩ : k < n ∧ ∀ x, ts[k]? = some x → Bef x a b := by simpa using HG.out.symm
        obtain ⟨ab, ao, rfl, hlo, hat⟩ := hs.at_ (by omega)
        obtain ⟨x, hx⟩ : ∃ x, ts[k]? = some x := ⟨_, List.getElem?_eq_getElem (by rw [HL.out]; exact hlt)⟩
        have c0 : w1.cell? ⟨ab, ao + k * 3, none⟩ = some (.int .i64 x.a) := (belc HR1.out hlo).trans (hat k x hx 0 _ rfl)
        have c1 : w1.cell? ⟨ab, ao + k * 3 + 1, none⟩ = some (.int .i64 x.b) := (belc HR1.out hlo).trans (hat k x hx 1 _ rfl)
        have c2 : w1.cell? ⟨ab, ao + k * 3 + 2, none⟩ = some (.int .i64 x.cnt) := (belc HR1.out hlo).trans (hat k x hx 2 _ rfl)
        have HX := Lib.hid hx
        have HBF := Lib.hid (hbef x hx)
        have HO := Lib.hid (own_below hO1.out.own ((by repeat (first | (with_reducible exact (Below.refl w1.heap.size w1)) | (with_reducible refine Below.drew ?_) | (with_reducible refine below_drewN ?_ _) | (with_reducible refine Below.setCell ?_ ?_ _; rotate_left; (first | omega | (simp <;> omega))) | (with_reducible refine Below.alloc ?_ ?_ _; rotate_left; (first | omega | (simp <;> omega))))) : Below w1.heap.size w1 ((w1.alloc (.cells #[.int .i64 x.a, .int .i64 x.b, .int .i64 x.cnt] 28)).drew)))
        have hzA : ((w1.alloc (.cells #[.int .i64 x.a, .int .i64 x.b, .int .i64 x.cnt] 28)).drew).heap.size = w1.heap.size + 1 := by show (w1.alloc _).heap.size = _; simp
        have HZA := Lib.hid hzA
        clear hat hx hbef hzA
        go_wp2
        go_region_law (refine step_append_any rfl (.tmp 27) (.tmp 33) 23 rfl (w.heap.size + 3) 28 i0 _ 3 24 Try.underlying23 hi hz0 hz1 hz2 rfl (by decide) v l.length (l.flatMap Pr.cells) (by simp [Act.eval]) HO.out (some ⟨w1.heap.size, 0, none⟩) 1 1 (Pr.cells x) (by simp [Act.eval]) (by intro h; cases h) rfl (news_new w1 _ _ _) (by simp [Pr.cells, Value.oneCell']) (by have := HLK.out; unfold maxLen; omega) (by have := HLK.out; omega) (by rw [HZA.out]; omega) ?_; intro A3 c3 w3 hown3 hgr3 _; have hnx := hO1.out.next x hown3 hgr3; have u7 := hnx.2.1; have u7f := hnx.2.2.1)
        all_goals
          have HNX := Lib.hid hnx
          clear hnx
          go_wp2
          go_roundw
          case rel => exact ⟨k + 1, _, by omega, by go_num, Lib.hid (by rw [← take_next HX.out, ← HLL.out]; exact HNX.out.1), Lib.hid (fun j u hj hu => by
            by_cases hjk : j = k
            · subst hjk; rw [HX.out] at hu; injection hu with hu; subst hu; exact HBF.out
            · exact hlow.out j u (by omega) hu), Lib.hid ((HB1.out.trans (HNX.out.2.2.2.mono (by omega))).setCell (by show _ ≤ _; simp) _)⟩
          case measure => simp [intOf]; omega
end Go.Proofs.Yteeglmlmconbmaa
