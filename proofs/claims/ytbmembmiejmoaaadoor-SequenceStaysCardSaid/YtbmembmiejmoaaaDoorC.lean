/- Train at a place that is there. -/
import Derived.Test.YtbmembmiejmoaaaDoorB
namespace Go.Proofs.YtbmembmiejmoaaaDoor
open Go.RowKit

theorem sl_upd {w2 F : World} {g n k : Nat} {ts : List Trk} {t : Trk} {v : Int} (hl : ts.length = n) (hg : g < F.heap.size) (ht : ts[k]? = some t)
    (hold : ∀ (i : Nat) (x : Trk), ts[i]? = some x → ∀ (j : Nat) (u : Value), (Trk.cells x)[j]? = some u → w2.cell? ⟨g, i * 3 + j, none⟩ = some u)
    (hoth : ∀ o, (o < k * 3 ∨ k * 3 + 3 ≤ o) → F.cell? ⟨g, o, none⟩ = w2.cell? ⟨g, o, none⟩)
    (hnew : ∀ (j : Nat) (u : Value), (Trk.cells (upd t v))[j]? = some u → F.cell? ⟨g, k * 3 + j, none⟩ = some u) :
    Sl F F.heap.size 3 Trk.cells (some ⟨g, 0, none⟩) n (ts.modify k (upd · v)) := by
  refine ⟨by rw [List.length_modify, hl], fun _ => ⟨g, 0, rfl, hg, fun i x hx j u hu => ?_⟩⟩
  have hj : j < 3 := by have := (List.getElem?_eq_some_iff.1 hu).1; rwa [Trk.size] at this
  rw [Nat.zero_add]
  rw [List.getElem?_modify] at hx
  by_cases hik : k = i
  · subst hik
    rw [ht] at hx
    simp at hx
    subst hx
    exact hnew j u hu
  · simp [hik] at hx
    rw [hoth _ (by omega)]
    exact hold i x hx j u hu

theorem three {t : Trk} {P : Nat → Value → Prop} (h0 : P 0 (.int .i64 t.key)) (h1 : P 1 (.int .i64 t.to)) (h2 : P 2 (.int .i64 t.cnt)) : ∀ (j : Nat) (u : Value), (Trk.cells t)[j]? = some u → P j u := by
  intro j u hu
  match j, hu with
  | 0, hu => simp [Trk.cells] at hu; subst hu; exact h0
  | 1, hu => simp [Trk.cells] at hu; subst hu; exact h1
  | 2, hu => simp [Trk.cells] at hu; subst hu; exact h2
  | j + 3, hu => simp [Trk.cells] at hu

set_option maxHeartbeats 4000000 in
theorem train_old (A : Option Addr) (n c : Nat) (ts : List Trk) (key : Int) (v : Int) (w : World) (hs : Sl w w.heap.size 3 Trk.cells A n ts) (hn : n ≤ 900000) (hgood : Good ts) (hh : hit ts key = true) :
    Calls Tryd.prog 8 #[.agg #[.slice A n c], .int .i64 key, .int .i64 v] w (Gives (train ts key v) w) := by
  have HS := Lib.hid hgood.1
  have HGD := Lib.hid hgood.2
  have HH := Lib.hid hh
  clear hgood hh
  go_enter Tryd.func8, Tryd.ntmps8
  go_wp2_with fail
  obtain ⟨W, hW⟩ : ∃ W, W = (w.alloc (.cells #[.slice A n c] 26)).alloc (.cells #[.slice none 0 0] 26) := ⟨_, rfl⟩
  rw [← hW]
  have hWb : Below w.heap.size w W := by rw [hW]; exact (by repeat (first | (with_reducible exact (Below.refl _ _)) | (with_reducible refine Below.drew ?_) | (with_reducible refine below_drewN ?_ _) | (with_reducible refine Below.setCell ?_ ?_ _; rotate_left; (first | omega | (simp <;> omega))) | (with_reducible refine Below.alloc ?_ ?_ _; rotate_left; (first | omega | (simp <;> omega)))))
  have hWz : W.heap.size = w.heap.size + 2 := by rw [hW]; simp
  have hsW := (hs.below hWb).mono (B' := W.heap.size) (by omega)
  refine (CloneTrk.any A n c (ts.flatMap Trk.cells) W (hsW.src Trk.size).1 (hsW.src Trk.size).2 (by rw [flat_len Trk.size, hs.len]) (by omega) (one_cells ts)).mono ?_
  rintro e w1 ⟨A1, c1, rfl, hown, hb1⟩
  have hz1 := hb1.size
  have q0 : W.cell? ⟨w.heap.size, 0, none⟩ = some (.slice A n c) := (by rw [hW, cell_old _ _ _ _ (by simp <;> omega), cell_new _ _ _ _ _ (by simp <;> omega)]; rfl)
  have q3 : W.cell? ⟨w.heap.size + 1, 0, none⟩ = some (.slice none 0 0) := (by rw [hW, cell_new _ _ _ _ _ (by simp <;> omega)]; rfl)
  have q4 : W.frozen? ⟨w.heap.size + 1, 0, none⟩ = false := (by rw [hW, frozen_new _ _ _ _ _ (by simp <;> omega)])
  have d0 := (hb1.cell (p := ⟨w.heap.size, 0, none⟩) (by simp; omega)).trans q0
  have d3 := (hb1.cell (p := ⟨w.heap.size + 1, 0, none⟩) (by simp; omega)).trans q3
  have d4 := (hb1.frozen (p := ⟨w.heap.size + 1, 0, none⟩) (by simp; omega)).trans q4
  have hlt0 : w.heap.size < w1.heap.size := by omega
  have hlt2 : w.heap.size + 1 < w1.heap.size := by omega
  have HW := Lib.hid hW
  have HZ := Lib.hid hWz
  clear hW hWz
  go_wp2_with fail
  refine (find_any A1 n c1 ts key _ ((Sl.of_own Trk.size hs.len (hown.alloc _))) HS.out (by omega)).mono ?_
  rintro e w2 ⟨rfl, hb2⟩
  obtain ⟨hc2, hf2⟩ := bcell hb2
  have hz2 := hb2.size
  simp only [World.size_alloc] at hz2
  have hm0 : w.heap.size < w2.heap.size := by omega
  have hm2 : w.heap.size + 1 < w2.heap.size := by omega
  have hm3 : w1.heap.size < w2.heap.size := by omega
  rw [HH.out]
  have hown2 := own_below (hown.alloc (.cells #[.slice A1 n c1] 26)) hb2
  obtain ⟨t, ht, _, _⟩ := fnd_some HH.out
  have hle : lowb ts key < n := by rw [← hs.len]; exact (List.getElem?_eq_some_iff.1 ht).1
  obtain ⟨g, c2, hA1, hbg, hgl⟩ := hown2.form (by omega)
  injection hA1 with hA1 _ hc12
  subst hA1 hc12
  have hgl1 : g < w1.heap.size := (hown.lt g rfl).2
  have hbg1 : w.heap.size + 2 ≤ g := by have := HZ.out; omega
  obtain ⟨k, hk⟩ : ∃ k, k = lowb ts key := ⟨_, rfl⟩
  rw [← hk] at ht hle
  rw [← hk]
  have hat : ∀ (j : Nat) (u : Value), (Trk.cells t)[j]? = some u → w2.cell? ⟨g, k * 3 + j, none⟩ = some u := fun j u hu => by
    have hj : j < 3 := by have := (List.getElem?_eq_some_iff.1 hu).1; rwa [Trk.size] at this
    rw [hown2.cellAt _ (by omega)]; exact flat_get Trk.size ts k t ht j u hu
  have e0 : w2.cell? ⟨g, k * 3, none⟩ = some (.int .i64 t.key) := hat 0 _ rfl
  have e1 : w2.cell? ⟨g, k * 3 + 1, none⟩ = some (.int .i64 t.to) := hat 1 _ rfl
  have e2 : w2.cell? ⟨g, k * 3 + 2, none⟩ = some (.int .i64 t.cnt) := hat 2 _ rfl
  have fz : ∀ j, w2.frozen? ⟨g, j, none⟩ = false := fun j => hown2.frozenAt j
  have b1 : w2.cell? ⟨w1.heap.size, 0, none⟩ = some (.slice (some ⟨g, 0, none⟩) n c1) := (hc2 _ _ (by simp)).trans (by simp)
  have b4 : w2.cell? ⟨w.heap.size + 1, 0, none⟩ = some (.slice none 0 0) := (hc2 _ _ (by simp; omega)).trans ((cell_old _ _ _ _ hlt2).trans d3)
  have b5 : w2.frozen? ⟨w.heap.size + 1, 0, none⟩ = false := (hf2 _ _ (by simp; omega)).trans ((frozen_old _ _ _ _ hlt2).trans d4)
  have hn2 : ¬ g = w.heap.size + 1 := by omega
  have hn3 : ¬ g = w1.heap.size := by omega
  have hb3 : Below w.heap.size w w2 := (hWb.trans ((hb1.mono (by have := HZ.out; omega)).alloc (by omega) _)).trans (hb2.mono (by simp; omega))
  have hold : ∀ (i : Nat) (x : Trk), ts[i]? = some x → ∀ (j : Nat) (u : Value), (Trk.cells x)[j]? = some u → w2.cell? ⟨g, i * 3 + j, none⟩ = some u := fun i x hx j u hu => by
    have hj : j < 3 := by have := (List.getElem?_eq_some_iff.1 hu).1; rwa [Trk.size] at this
    have hi := (List.getElem?_eq_some_iff.1 hx).1
    rw [hs.len] at hi
    rw [hown2.cellAt _ (by omega)]; exact flat_get Trk.size ts i x hx j u hu
  have HO := Lib.hid hold
  have hsb := HGD.out k t ht
  obtain ⟨hsb0, hsb1⟩ := hsb
  have HTR := Lib.hid (show train ts key v = ts.modify k (upd · v) from by rw [train, HH.out, hk]; rfl)
  clear hold
  have HT := Lib.hid ht
  have HK := Lib.hid hk
  have HF2 := Lib.hid hf2
  have HC2 := Lib.hid hc2
  clear ht hk hat hf2 hc2
  have hg2 : g < w2.heap.size := by omega
  have hlog : w.heap.size ≤ g := by omega
  have U0 : (upd t v).key = t.key := upd_key t v
  by_cases hto : t.to = v
  · have U1 := Lib.hid (show upd t v = ⟨t.key, v, if t.cnt ≤ 2 then t.cnt + 1 else 3⟩ by simp [upd, hto])
    have E1 := Lib.hid (e1.trans (by rw [hto]))
    clear e1
    have e1 := E1.out
    have HTO := Lib.hid hto
    clear hto U0
    go_wp2
    all_goals
      refine bodyPost_ret (v := .agg #[.slice (some ⟨g, 0, none⟩) n c1]) (by simp [results, Tryd.results8, go_sem, b4]) rfl ⟨_, n, c1, rfl, ?_, (by repeat (first | (with_reducible exact hb3) | (with_reducible refine Below.drew ?_) | (with_reducible refine below_drewN ?_ _) | (with_reducible refine Below.setCell ?_ ?_ _; rotate_left; (first | omega | (simp <;> omega))) | (with_reducible refine Below.alloc ?_ ?_ _; rotate_left; (first | omega | (simp <;> omega))))), by rintro ad ⟨⟩; exact hlog⟩
      rw [HTR.out]
      refine sl_upd (w2 := w2) hs.len (by simpa using hg2) HT.out HO.out (fun o ho => ?_) ?_
      · try simp only [World.cell?_drew]
        repeat rw [set_other _ _ _ _ (by intro e; injection e with e1 e2; omega)]
      · rw [U1.out]
        refine three (t := ⟨_, _, _⟩) ?_ ?_ ?_
        · simp [go_sem, e0]
        · simp [go_sem, e1]
        · simp [go_sem, e2] <;> omega
  · by_cases h1 : t.cnt = 1
    · have U1 := Lib.hid (show upd t v = ⟨t.key, v, 1⟩ by simp [upd, hto, h1])
      have h0 : ((t.cnt - 1 : Int) == 0) = true := by rw [h1]; rfl
      have HTO : (t.to == v) = false := by simpa using hto
      have H1 := Lib.hid h1
      clear hto h1 U0
      go_wp2
      all_goals
        refine bodyPost_ret (v := .agg #[.slice (some ⟨g, 0, none⟩) n c1]) (by simp [results, Tryd.results8, go_sem, b4]) rfl ⟨_, n, c1, rfl, ?_, (by repeat (first | (with_reducible exact hb3) | (with_reducible refine Below.drew ?_) | (with_reducible refine below_drewN ?_ _) | (with_reducible refine Below.setCell ?_ ?_ _; rotate_left; (first | omega | (simp <;> omega))) | (with_reducible refine Below.alloc ?_ ?_ _; rotate_left; (first | omega | (simp <;> omega))))), by rintro ad ⟨⟩; exact hlog⟩
        rw [HTR.out]
        refine sl_upd (w2 := w2) hs.len (by simpa using hg2) HT.out HO.out (fun o ho => ?_) ?_
        · try simp only [World.cell?_drew]
          repeat rw [set_other _ _ _ _ (by intro e; injection e with e1 e2; omega)]
        · rw [U1.out]
          refine three (t := ⟨_, _, _⟩) ?_ ?_ ?_
          · simp [go_sem, e0]
          · simp [go_sem, e1]
          · simp [go_sem, e2]
    · have U1 := Lib.hid (show upd t v = ⟨t.key, t.to, t.cnt - 1⟩ by simp [upd, hto, show ¬ t.cnt ≤ 1 by omega])
      have h0 : ((t.cnt - 1 : Int) == 0) = false := by rw [beq_eq_false_iff_ne]; omega
      have HTO : (t.to == v) = false := by simpa using hto
      have H1 := Lib.hid h1
      clear hto h1 U0
      go_wp2
      all_goals
        refine bodyPost_ret (v := .agg #[.slice (some ⟨g, 0, none⟩) n c1]) (by simp [results, Tryd.results8, go_sem, b4]) rfl ⟨_, n, c1, rfl, ?_, (by repeat (first | (with_reducible exact hb3) | (with_reducible refine Below.drew ?_) | (with_reducible refine below_drewN ?_ _) | (with_reducible refine Below.setCell ?_ ?_ _; rotate_left; (first | omega | (simp <;> omega))) | (with_reducible refine Below.alloc ?_ ?_ _; rotate_left; (first | omega | (simp <;> omega))))), by rintro ad ⟨⟩; exact hlog⟩
        rw [HTR.out]
        refine sl_upd (w2 := w2) hs.len (by simpa using hg2) HT.out HO.out (fun o ho => ?_) ?_
        · try simp only [World.cell?_drew]
          repeat rw [set_other _ _ _ _ (by intro e; injection e with e1 e2; omega)]
        · rw [U1.out]
          refine three (t := ⟨_, _, _⟩) ?_ ?_ ?_
          · simp [go_sem, e0]
          · simp [go_sem, e1]
          · simp [go_sem, e2]

/-- Train, whatever the place. -/
theorem train_any (A : Option Addr) (n c : Nat) (ts : List Trk) (key : Int) (v : Int) (w : World) (hs : Sl w w.heap.size 3 Trk.cells A n ts) (hn : n ≤ 900000) (hg : Good ts) :
    Calls Tryd.prog 8 #[.agg #[.slice A n c], .int .i64 key, .int .i64 v] w (Gives (train ts key v) w) := by
  cases hh : hit ts key
  · exact train_new A n c ts key v w hs hn hg.1 hh
  · exact train_old A n c ts key v w hs hn hg hh
end Go.Proofs.YtbmembmiejmoaaaDoor
