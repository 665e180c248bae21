/- ledger.move with the closure 39: what it gives. -/
import Derived.Test.YtignbncphdemlaaG
namespace Go.Proofs.Ytignbncphdemlaa
open Go.RowKit

set_option maxHeartbeats 1000000 in
theorem movek_any (A : Option Addr) (n c : Nat) (l : List Acc) (B : Option Addr) (m d : Nat) (s : List Shr)  (w : World) (hs : Sl w w.heap.size 8 Acc.cells A n l) (hr : Sl w w.heap.size 2 Shr.cells B m s) (hn : n ≤ 1000000) (hm : m ≤ 1000000) (hok : Ok 1000000 l)  :
    Calls Try.prog 38 #[.slice A n c, .slice B m d, .func (.func 39) #[] #[]] w (GivesE (moveE (0) l s) w) := by
  have HL := Lib.hid hs.len
  have HM := Lib.hid hr.len
  have HOK := Lib.hid hok
  have HSA := Lib.hid hs
  have HSS := Lib.hid hr
  obtain ⟨W, hW⟩ : ∃ W, W = w.alloc (.cells #[.slice A n c] 26) := ⟨_, rfl⟩
  have hWb : Below w.heap.size w W := by rw [hW]; exact (by repeat (first | (with_reducible exact (Below.refl _ _)) | (with_reducible refine Below.drew ?_) | (with_reducible refine below_drewN ?_ _) | (with_reducible refine Below.setCell ?_ ?_ _; rotate_left; (first | omega | (simp <;> omega))) | (with_reducible refine Below.alloc ?_ ?_ _; rotate_left; (first | omega | (simp <;> omega)))))
  have hWz : W.heap.size = w.heap.size + 1 := by rw [hW]; simp
  have q0 : W.cell? ⟨w.heap.size, 0, none⟩ = some (.slice A n c) := (by rw [hW, cell_new _ _ _ _ _ (by simp <;> omega)]; rfl)
  have HQ0 := Lib.hid q0
  have HZ := Lib.hid hWz
  have HB := Lib.hid hWb
  clear hok hs hr hWb hWz q0
  go_enter Try.func38, Try.ntmps38
  go_wp2_with fail
  rw [← hW]
  have HW := Lib.hid hW
  clear hW
  refine (strange_any B m d s w.heap.size A n c W ((HSS.out.below HB.out).mono (by rw [HZ.out]; omega)) hm hn (by rw [HZ.out]; omega) HQ0.out).mono ?_
  rintro e w1 ⟨rfl, hb1⟩
  have hz1 := hb1.size
  have hzw : w.heap.size < w1.heap.size := by have := HZ.out; omega
  have r0 := (belc hb1 (b := w.heap.size) (o := 0) (by rw [HZ.out]; omega)).trans HQ0.out
  have hbw : Below w.heap.size w w1 := HB.out.trans (hb1.mono (by rw [HZ.out]; omega))
  cases hst : strange n s with
  | true =>
    have HE := Lib.hid (show moveE (0) l s = ([], 2) from by rw [moveE, HL.out, hst]; rfl)
    clear hst
    go_wp2
    go_ret2
    rw [HE.out]
    exact ⟨none, 0, rfl, Sl.nil, hbw, fun h => absurd h (by decide)⟩
  | false =>
    have HST := Lib.hid hst
    clear hst
    go_wp2_with fail
    refine (CloneAcc.recs A n c l w1 ((HSA.out.below hbw).mono (by omega)) hn).mono ?_
    rintro e w2 ⟨A2, c2, rfl, hown, hs2, hb2, hg⟩
    have hz2 := hb2.size
    have hbw2 : Below w.heap.size w w2 := hbw.trans (hb2.mono (by omega))
    have HE := Lib.hid (show moveE (0) l s = resE (moveL (0) l s) from by rw [moveE, HL.out, HST.out, if_neg (by decide)])
    have HG2 := Lib.hid hg
    have HS2 := Lib.hid hs2
    clear hown hs2 hg
    go_wp2_with fail
    go_loopw [21] (fun i wr => ∃ (k : Nat) (lk : List Acc), k ≤ m ∧ i = .int .i64 k ∧ Hid (moveL (0) l s = moveL (0) lk (s.drop k)) ∧ Hid (Ok 1000000 lk) ∧ Hid (Sl wr wr.heap.size 8 Acc.cells A2 n lk) ∧ Below w.heap.size w wr ∧ w2.heap.size ≤ wr.heap.size ∧ Hid (∀ g, 0 < n → A2 = some ⟨g, 0, none⟩ → ∀ j, wr.frozen? ⟨g, j, none⟩ = false) ) (fun i _ => m - (intOf i).toNat)
    case atStart => exact ⟨0, l, Nat.zero_le _, rfl, Lib.hid (by rw [List.drop_zero]), HOK, HS2, hbw2, Nat.le_refl _, Lib.hid (fun g h0 hA j => by obtain ⟨g', hA', _, _, hf⟩ := HG2.out h0; rw [hA'] at hA; injection hA with hA; injection hA with hA; subst hA; exact hf j) ⟩
    case round =>
      obtain ⟨k, lk, hk, rfl, heq, hok, hsl, hb, hzr, hfz ⟩ := hrel
      have hzz := hb.size
      by_cases hlt : k < m
      · obtain ⟨x, hx⟩ : ∃ x, s[k]? = some x := ⟨_, List.getElem?_eq_getElem (by rw [HM.out]; exact hlt)⟩
        obtain ⟨sb, so, rfl, hlo, hat⟩ := HSS.out.at_ (by omega)
        have c0 : wr.cell? ⟨sb, so + k * 2, none⟩ = some (.int .i64 x.worker) := (belc hb hlo).trans (hat k x hx 0 _ rfl)
        have c1 : wr.cell? ⟨sb, so + k * 2 + 1, none⟩ = some (.int .i64 x.steps) := (belc hb hlo).trans (hat k x hx 1 _ rfl)
        obtain ⟨i0, i1⟩ := strange_in HST.out hx
        obtain ⟨q, hq⟩ := Int.eq_ofNat_of_zero_le i0
        have hqn : q < n := by omega
        have hn0 : 0 < n := by omega
        obtain ⟨g, hA2, hg0, hg1, _⟩ := HG2.out hn0
        subst hA2
        have hln : lk.length = n := hsl.out.len
        obtain ⟨a, ha⟩ : ∃ a, lk[q]? = some a := ⟨_, List.getElem?_eq_getElem (by omega)⟩
        have d7 : wr.cell? ⟨g, q * 8 + 7, none⟩ = some (.int .i64 (a 7)) := by have := sl_at hsl.out ha (Acc.at_ a 7 (by omega)); rwa [Nat.zero_add] at this
        have df : wr.cell? ⟨g, q * 8 + (0), none⟩ = some (.int .i64 (a (0))) := by have := sl_at hsl.out ha (Acc.at_ a (0) (by omega)); rwa [Nat.zero_add] at this
        have f7 := hfz.out g hn0 rfl (q * 8 + 7)
        have ff := hfz.out g hn0 rfl (q * 8 + (0))
        have hgs : ¬ g = sb := by omega
        have hgr : g < wr.heap.size := by omega
        have hsr : sb < wr.heap.size := by omega
        obtain ⟨a70, a71⟩ := hok.out.at_ ha 7 (by omega)
        obtain ⟨af0, af1⟩ := hok.out.at_ ha (0) (by omega)
        have hdr := drop_at hx
        have HX := Lib.hid hx
        have HQ := Lib.hid hq
        have HAK := Lib.hid ha
        have HDR := Lib.hid hdr
        rw [hq] at c0 i1
        clear hx hat ha hdr i0 hq
        have hqt : x.worker.toNat = q := by rw [HQ.out]; rfl
        have HQT := Lib.hid hqt
        clear hqt
        by_cases hneg : x.steps < 0
        · have HR := Lib.hid (show moveL (0) l s = none from by rw [heq.out, HDR.out]; exact moveL_stop (by rw [HQT.out]; exact HAK.out) (by omega))
          go_wp2
          go_quiet (fail)
          go_wp2
          go_ret2
          rw [HE.out, HR.out]
          exact ⟨none, 0, rfl, Sl.nil, (by repeat (first | (with_reducible exact hb) | (with_reducible refine Below.drew ?_) | (with_reducible refine below_drewN ?_ _) | (with_reducible refine Below.setCell ?_ ?_ _; rotate_left; (first | omega | (simp <;> omega))) | (with_reducible refine Below.alloc ?_ ?_ _; rotate_left; (first | omega | (simp <;> omega))))), fun h => absurd h (by decide)⟩
        · by_cases hbig : x.steps ≤ a 7
          · have HR := Lib.hid (moveL_step (f := (0)) (s := s.drop (k + 1)) (by rw [HQT.out]; exact HAK.out) (show 0 ≤ x.steps by omega) hbig)
            go_wp2
            go_quiet (fail)
            go_wp2
            go_region
            go_wp2
            generalize hws : World.setCell _ _ _ = ws
            have hab : Below wr.heap.size wr ((wr.alloc (.cells #[.int .i64 q, .int .i64 x.steps] 46)).drewN (nq + 1)) := (by repeat (first | (with_reducible exact (Below.refl _ _)) | (with_reducible refine Below.drew ?_) | (with_reducible refine below_drewN ?_ _) | (with_reducible refine Below.setCell ?_ ?_ _; rotate_left; (first | omega | (simp <;> omega))) | (with_reducible refine Below.alloc ?_ ?_ _; rotate_left; (first | omega | (simp <;> omega)))))
            have hsb2 : Below w.heap.size w ws := by rw [← hws]; exact (by repeat (first | (with_reducible exact hb) | (with_reducible refine Below.drew ?_) | (with_reducible refine below_drewN ?_ _) | (with_reducible refine Below.setCell ?_ ?_ _; rotate_left; (first | omega | (simp <;> omega))) | (with_reducible refine Below.alloc ?_ ?_ _; rotate_left; (first | omega | (simp <;> omega)))))
            have hwz2 : ws.heap.size = wr.heap.size + 1 := by rw [← hws]; simp [World.setCell]
            have e0 : ws.cell? ⟨wr.heap.size, 1, none⟩ = some (.int .i64 x.steps) := by rw [← hws]; simp [go_sem]
            have ef : ws.cell? ⟨g, q * 8 + (0), none⟩ = some (.int .i64 (a (0))) := by rw [← hws, set_other _ _ _ _ (by intro e; injection e with e1 e2; omega)]; exact (belc hab hgr).trans df
            have es : Sl ws ws.heap.size 8 Acc.cells (some ⟨g, 0, none⟩) n (lk.modify q (fun b => put b 7 (a 7 - x.steps))) := by
              rw [← hws]
              exact (Sl.mod1 Acc.size (hsl.out.up hab) HAK.out (j := 7) (by omega) (put_cells a 7 (by omega) _) _ (by simp)).mono (by simp)
            have ez : ∀ j, ws.frozen? ⟨g, j, none⟩ = false := fun j => by rw [← hws, World.frozen?_setCell]; exact (belf hab hgr).trans (hfz.out g hn0 rfl j)
            have eg := ez (q * 8 + (0))
            have hgs2 : g < ws.heap.size := by omega
            skip
            have HES := Lib.hid es
            have HEZ := Lib.hid ez
            have HSB := Lib.hid hsb2
            have hfin : ∀ (kk : Nat) (p : Addr), p = ⟨g, 0 + (q * 8 + (0)), none⟩ → Sl ((ws.drewN kk).setCell p (.int .i64 (a (0) + x.steps))) ((ws.drewN kk).setCell p (.int .i64 (a (0) + x.steps))).heap.size 8 Acc.cells (some ⟨g, 0, none⟩) n (lk.modify q (mv1 (0) x.steps)) := fun kk p hp => by
              have h1 : Sl (ws.drewN kk) (ws.drewN kk).heap.size 8 Acc.cells (some ⟨g, 0, none⟩) n (lk.modify q (fun b => put b 7 (a 7 - x.steps))) := HES.out.up (below_drewN (Below.refl _ _) kk)
              have h2 := Sl.mod1 (f := fun b => put b (0) (a (0) + x.steps)) Acc.size h1 (t := put a 7 (a 7 - x.steps)) (by rw [List.getElem?_modify, HAK.out]; simp) (j := 0) (by omega) (put_cells _ (0) (by omega) (a (0) + x.steps)) p hp
              rw [modify_two HAK.out (g := mv1 (0) x.steps) rfl] at h2
              exact h2.mono (by simp)
            have HFIN := Lib.hid hfin
            have HNX := Lib.hid (show moveL (0) l s = moveL (0) (lk.modify q (mv1 (0) x.steps)) (s.drop (k + 1)) from by rw [heq.out, HDR.out, HR.out, HQT.out])
            have HOK2 := Lib.hid (hok.out.modify (k := q) (f := mv1 (0) x.steps) (Int.le_refl _) (fun b hb hbo => by rw [HAK.out] at hb; injection hb with hb; subst hb; exact mv_ok (by omega) (by omega) hbig hbo))
            try simp only [Nat.add_zero] at ef eg
            clear hfin
            clear es ez hws hab d7 df f7 ff c0 c1 hsb2
            go_region_with (go_at_call 39; refine (keep1_any g (q * 8) _).mono ?_; rintro e w' ⟨rfl, kk, rfl⟩)
            go_wp2
            all_goals
              refine ⟨⟨k + 1, lk.modify q (mv1 (0) x.steps), by omega, by go_num, HNX, HOK2, Lib.hid (HFIN.out _ _ (by simp)), (by repeat (first | (with_reducible exact HSB.out) | (with_reducible refine Below.drew ?_) | (with_reducible refine below_drewN ?_ _) | (with_reducible refine Below.setCell ?_ ?_ _; rotate_left; (first | omega | (simp <;> omega))) | (with_reducible refine Below.alloc ?_ ?_ _; rotate_left; (first | omega | (simp <;> omega))))), by simp; omega, Lib.hid (fun g1 h0 hA j => by injection hA with hA; injection hA with hA; subst hA; rw [World.frozen?_setCell]; exact HEZ.out j) ⟩, by simp [intOf]; omega⟩
          · have HR := Lib.hid (show moveL (0) l s = none from by rw [heq.out, HDR.out]; exact moveL_stop (by rw [HQT.out]; exact HAK.out) (by omega))
            go_wp2
            go_quiet (fail)
            go_wp2
            go_ret2
            rw [HE.out, HR.out]
            exact ⟨none, 0, rfl, Sl.nil, (by repeat (first | (with_reducible exact hb) | (with_reducible refine Below.drew ?_) | (with_reducible refine below_drewN ?_ _) | (with_reducible refine Below.setCell ?_ ?_ _; rotate_left; (first | omega | (simp <;> omega))) | (with_reducible refine Below.alloc ?_ ?_ _; rotate_left; (first | omega | (simp <;> omega))))), fun h => absurd h (by decide)⟩
      · obtain rfl : k = m := by omega
        have HR := Lib.hid (show moveL (0) l s = some lk from by rw [heq.out, List.drop_eq_nil_of_le (by rw [HM.out]; exact Nat.le_refl _)]; rfl)
        have HN : lk.length = n := hsl.out.len
        go_wp2
        go_ret2
        rw [HE.out, HR.out]
        refine ⟨A2, c2, by simp only [resE, HN]; rfl, by simp only [resE, HN]; exact hsl.out, hb, fun hp ad h => ?_⟩
        simp only [resE, HN] at hp
        obtain ⟨g, rfl, hg0, _⟩ := HG2.out hp
        injection h with h
        subst h
        show _ ≤ g
        omega
end Go.Proofs.Ytignbncphdemlaa
