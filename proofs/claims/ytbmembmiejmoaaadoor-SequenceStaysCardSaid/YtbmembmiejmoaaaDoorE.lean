/- The reference's Train at a key that is there. -/
import Derived.Test.YtbmembmiejmoaaaDoorD
namespace Go.Proofs.YtbmembmiejmoaaaDoor
open Go.RowKit

set_option maxRecDepth 100000 in
set_option maxHeartbeats 1000000 in
theorem reftrain_old (A : Option Addr) (n c : Nat) (ts : List Trk) (key : Int) (v : Int) (w : World) (hs : Sl w w.heap.size 3 Trk.cells A n ts) (hn : n ≤ 900000) (hgood : Good ts) (hh : hit ts key = true) :
    Calls Tryd.prog 10 #[.agg #[.slice A n c], .int .i64 key, .int .i64 v] w (Gives (train ts key v) w) := by
  obtain ⟨i0, hi, hz0, hz1, hz2⟩ := info_parts CloneTrk.infoE
  have HGD := Lib.hid hgood.2
  have HH := Lib.hid hh
  clear hgood hh
  obtain ⟨W, hW⟩ : ∃ W, W = (w.alloc (.cells #[.slice A n c] 26)).alloc (.cells #[.slice none 0 0] 26) := ⟨_, rfl⟩
  have hWb : Below w.heap.size w W := by rw [hW]; exact (by repeat (first | (with_reducible exact (Below.refl _ _)) | (with_reducible refine Below.drew ?_) | (with_reducible refine below_drewN ?_ _) | (with_reducible refine Below.setCell ?_ ?_ _; rotate_left; (first | omega | (simp <;> omega))) | (with_reducible refine Below.alloc ?_ ?_ _; rotate_left; (first | omega | (simp <;> omega)))))
  have hWz : W.heap.size = w.heap.size + 2 := by rw [hW]; simp
  have hsW := (hs.below hWb).mono (B' := W.heap.size) (by omega)
  have q0 : W.cell? ⟨w.heap.size, 0, none⟩ = some (.slice A n c) := (by rw [hW, cell_old _ _ _ _ (by simp <;> omega), cell_new _ _ _ _ _ (by simp <;> omega)]; rfl)
  have q3 : W.cell? ⟨w.heap.size + 1, 0, none⟩ = some (.slice none 0 0) := (by rw [hW, cell_new _ _ _ _ _ (by simp <;> omega)]; rfl)
  have q4 : W.frozen? ⟨w.heap.size + 1, 0, none⟩ = false := (by rw [hW, frozen_new _ _ _ _ _ (by simp <;> omega)])
  have HL := Lib.hid (show (ts.flatMap Trk.cells).length = n * 3 from by rw [flat_len Trk.size, hs.len])
  have HQ0 := Lib.hid q0
  have HQ3 := Lib.hid q3
  have HQ4 := Lib.hid q4
  have HZ := Lib.hid hWz
  have HB := Lib.hid hWb
  clear hWz q0 q3 q4 hWb
  subst hW
  go_enter Tryd.func10, Tryd.ntmps10
  go_wp2_with (at_builtin; refine wpList_append_any rfl _ _ 24 rfl (w.heap.size + 2) 58 i0 _ 3 24 Tryd.underlying24 hi hz0 hz1 hz2 rfl (by decide) (.slice none 0 0) 0 [] rfl (World.ownsRow_nil _ _ _ _) A n c (ts.flatMap Trk.cells) rfl (hsW.src Trk.size).1 HL.out (hsW.src Trk.size).2 (one_cells ts) (by unfold maxLen; omega) (by omega) (by simp) ?_; intro A1 c1 w1 hown1 hgr1 _; have d0 := ((gcell hgr1).1 w.heap.size 0 (by rw [HZ.out]; omega) (by simp [Value.ownBlock])).trans HQ0.out)
  have hz := hgr1.size
  rw [HZ.out] at hz
  have d3 := ((gcell hgr1).1 (w.heap.size + 1) 0 (by rw [HZ.out]; omega) (by simp [Value.ownBlock])).trans HQ3.out
  have d4 := ((gcell hgr1).2 (w.heap.size + 1) 0 (by rw [HZ.out]; omega) (by simp [Value.ownBlock])).trans HQ4.out
  have hb1 : Below w.heap.size w w1 := HB.out.grown hgr1 (by rw [HZ.out]; omega) (by simp [Value.ownBlock])
  rw [List.nil_append, Nat.zero_add] at hown1
  have hs1 := (hs.below hb1).mono (B' := w1.heap.size) (by omega)
  refine (at_any A n c ts key _ hs1 (by omega)).mono ?_
  rintro e w2 ⟨rfl, hb2⟩
  have hz2' := hb2.size
  have e3 := (hb2.cell (p := ⟨w.heap.size + 1, 0, none⟩) (by simp; omega)).trans d3
  have e4 := (hb2.frozen (p := ⟨w.heap.size + 1, 0, none⟩) (by simp; omega)).trans d4
  have hown2 := own_below hown1 hb2
  have hbW : Below w.heap.size w w2 := hb1.trans (hb2.mono (by omega))
  rw [HH.out]
  obtain ⟨t, ht, _, hkey⟩ := fnd_some HH.out
  have HKEY := Lib.hid hkey
  clear hkey
  have hle : lowb ts key < n := by rw [← hs.len]; exact (List.getElem?_eq_some_iff.1 ht).1
  obtain ⟨g, c2, hA1, hbg, hgl⟩ := hown2.form (by omega)
  injection hA1 with hA1 _ hc12
  subst hA1 hc12
  obtain ⟨k, hk⟩ : ∃ k, k = lowb ts key := ⟨_, rfl⟩
  rw [← hk] at ht hle
  rw [← hk]
  have hold : ∀ (i : Nat) (x : Trk), ts[i]? = some x → ∀ (j : Nat) (u : Value), (Trk.cells x)[j]? = some u → w2.cell? ⟨g, i * 3 + j, none⟩ = some u := fun i x hx j u hu => by
    have hj : j < 3 := by have := (List.getElem?_eq_some_iff.1 hu).1; rwa [Trk.size] at this
    have hi := (List.getElem?_eq_some_iff.1 hx).1
    rw [hs.len] at hi
    rw [hown2.cellAt _ (by omega)]; exact flat_get Trk.size ts i x hx j u hu
  have f0 : w2.cell? ⟨g, k * 3, none⟩ = some (.int .i64 t.key) := hold k t ht 0 _ rfl
  have f1 : w2.cell? ⟨g, k * 3 + 1, none⟩ = some (.int .i64 t.to) := hold k t ht 1 _ rfl
  have f2 : w2.cell? ⟨g, k * 3 + 2, none⟩ = some (.int .i64 t.cnt) := hold k t ht 2 _ rfl
  have fz : ∀ j, w2.frozen? ⟨g, j, none⟩ = false := fun j => hown2.frozenAt j
  obtain ⟨hsb0, hsb1⟩ := HGD.out k t ht
  have HTR := Lib.hid (show train ts key v = ts.modify k (upd · v) from by rw [train, HH.out, hk]; rfl)
  have HO := Lib.hid hold
  have HT := Lib.hid ht
  have hlog : w.heap.size ≤ g := by omega
  have hn2 : ¬ g = w.heap.size + 1 := by omega
  have hlt2 : w.heap.size + 1 < w2.heap.size := by omega
  clear hold ht hk d0 d3 d4
  have hgg : g < w2.heap.size := by omega
  have hgn : ¬ g = w2.heap.size := by omega
  by_cases hto : t.to = v
  · have U1 := Lib.hid (show upd t v = ⟨t.key, v, if t.cnt ≤ 2 then t.cnt + 1 else 3⟩ by simp [upd, hto])
    have E1 := Lib.hid (f1.trans (by rw [hto]))
    clear f1
    have f1 := E1.out
    have HTO := Lib.hid hto
    clear hto
    · go_wp2
      all_goals
        refine bodyPost_ret (v := .agg #[.slice (some ⟨g, 0, none⟩) n c1]) (by simp [results, Tryd.results10, go_sem, e3, hlt2, World.cell?_alloc_lt]) rfl ⟨_, n, c1, rfl, ?_, (by repeat (first | (with_reducible exact hbW) | (with_reducible refine Below.drew ?_) | (with_reducible refine below_drewN ?_ _) | (with_reducible refine Below.setCell ?_ ?_ _; rotate_left; (first | omega | (simp <;> omega))) | (with_reducible refine Below.alloc ?_ ?_ _; rotate_left; (first | omega | (simp <;> omega))))), by rintro ad ⟨⟩; exact hlog⟩
        rw [HTR.out]
        refine sl_upd (w2 := w2) hs.len (by simp; omega) HT.out HO.out (fun o ho => ?_) ?_
        · rw [cell_old _ _ _ _ (by simp; omega)]
          repeat rw [set_other _ _ _ _ (by intro e; injection e with e1 e2; omega)]
        · rw [U1.out]
          refine three (t := ⟨_, _, _⟩) ?_ ?_ ?_
          · simp [go_sem, f0, hgg, World.cell?_alloc_lt]
          · simp [go_sem, f1, hgg, World.cell?_alloc_lt]
          · simp [go_sem, f2, hgg, World.cell?_alloc_lt] <;> omega
  · by_cases h1 : t.cnt = 1
    · have U1 := Lib.hid (show upd t v = ⟨t.key, v, 1⟩ by simp [upd, hto, h1])
      have h0 : decide (t.cnt - 1 ≤ 0) = true := by rw [h1]; rfl
      have h0' : t.cnt - 1 ≤ 0 := by omega
      have h0'' : t.cnt ≤ 1 := by omega
      have HTO : (t.to == v) = false := by simpa using hto
      have H1 := Lib.hid h1
      clear hto h1
      go_wp2
      all_goals
        refine bodyPost_ret (v := .agg #[.slice (some ⟨g, 0, none⟩) n c1]) (by simp [results, Tryd.results10, go_sem, e3, hlt2, World.cell?_alloc_lt]) rfl ⟨_, n, c1, rfl, ?_, (by repeat (first | (with_reducible exact hbW) | (with_reducible refine Below.drew ?_) | (with_reducible refine below_drewN ?_ _) | (with_reducible refine Below.setCell ?_ ?_ _; rotate_left; (first | omega | (simp <;> omega))) | (with_reducible refine Below.alloc ?_ ?_ _; rotate_left; (first | omega | (simp <;> omega))))), by rintro ad ⟨⟩; exact hlog⟩
        rw [HTR.out]
        refine sl_upd (w2 := w2) hs.len (by simp; omega) HT.out HO.out (fun o ho => ?_) ?_
        · rw [cell_old _ _ _ _ (by simp; omega)]
          repeat rw [set_other _ _ _ _ (by intro e; injection e with e1 e2; omega)]
        · rw [U1.out]
          refine three (t := ⟨_, _, _⟩) ?_ ?_ ?_
          · simp [go_sem, f0, hgg, World.cell?_alloc_lt]
          · simp [go_sem, f1, hgg, World.cell?_alloc_lt]
          · simp [go_sem, f2, hgg, World.cell?_alloc_lt] <;> omega
    · have U1 := Lib.hid (show upd t v = ⟨t.key, t.to, t.cnt - 1⟩ by simp [upd, hto, show ¬ t.cnt ≤ 1 by omega])
      have h0'' : 1 < t.cnt := by omega
      have HTO : (t.to == v) = false := by simpa using hto
      have H1 := Lib.hid h1
      clear hto h1
      go_wp2
      all_goals
        refine bodyPost_ret (v := .agg #[.slice (some ⟨g, 0, none⟩) n c1]) (by simp [results, Tryd.results10, go_sem, e3, hlt2, World.cell?_alloc_lt]) rfl ⟨_, n, c1, rfl, ?_, (by repeat (first | (with_reducible exact hbW) | (with_reducible refine Below.drew ?_) | (with_reducible refine below_drewN ?_ _) | (with_reducible refine Below.setCell ?_ ?_ _; rotate_left; (first | omega | (simp <;> omega))) | (with_reducible refine Below.alloc ?_ ?_ _; rotate_left; (first | omega | (simp <;> omega))))), by rintro ad ⟨⟩; exact hlog⟩
        rw [HTR.out]
        refine sl_upd (w2 := w2) hs.len (by simp; omega) HT.out HO.out (fun o ho => ?_) ?_
        · rw [cell_old _ _ _ _ (by simp; omega)]
          repeat rw [set_other _ _ _ _ (by intro e; injection e with e1 e2; omega)]
        · rw [U1.out]
          refine three (t := ⟨_, _, _⟩) ?_ ?_ ?_
          · simp [go_sem, f0, hgg, World.cell?_alloc_lt]
          · simp [go_sem, f1, hgg, World.cell?_alloc_lt]
          · simp [go_sem, f2, hgg, World.cell?_alloc_lt] <;> omega

theorem reftrain_any (A : Option Addr) (n c : Nat) (ts : List Trk) (key : Int) (v : Int) (w : World) (hs : Sl w w.heap.size 3 Trk.cells A n ts) (hn : n ≤ 900000) (hg : Good ts) :
    Calls Tryd.prog 10 #[.agg #[.slice A n c], .int .i64 key, .int .i64 v] w (Gives (train ts key v) w) := by
  cases hh : hit ts key
  · exact reftrain_new A n c ts key v w hs hn hh
  · exact reftrain_old A n c ts key v w hs hn hg hh
end Go.Proofs.YtbmembmiejmoaaaDoor
