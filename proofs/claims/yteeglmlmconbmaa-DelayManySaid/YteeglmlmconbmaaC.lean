/- Train. -/
import Derived.Test.YteeglmlmconbmaaB
import Derived.Test.YteeglmlmconbmaaIns
import Derived.Test.YteeglmlmconbmaaClone
namespace Go.Proofs.Yteeglmlmconbmaa
open Go.RowKit

/-- What a call leaves that gives these pairs. -/
def Gives (ts' : List Pr) (w : World) (e : Ending) (w' : World) : Prop := ∃ A' n' c', e = .returned (.agg #[.slice A' n' c']) ∧ Sl w' w'.heap.size 3 Pr.cells A' n' ts' ∧ Below w.heap.size w w' ∧ (∀ ad, A' = some ad → w.heap.size ≤ ad.block)
theorem one_cells (ts : List Pr) : ∀ u ∈ ts.flatMap Pr.cells, u.oneCell' = true := by
  intro u hu
  obtain ⟨t, _, ht⟩ := List.mem_flatMap.1 hu
  simp [Pr.cells] at ht
  rcases ht with rfl | rfl | rfl <;> rfl
theorem heap_alloc_new (w : World) (o : Obj) : (w.alloc o).heap[w.heap.size]? = some o := heap_new w o
theorem sl_upd {w2 F : World} {g n k : Nat} {ts : List Pr} {t : Pr} (hl : ts.length = n) (hg : g < F.heap.size) (ht : ts[k]? = some t)
    (hold : ∀ (i : Nat) (x : Pr), ts[i]? = some x → ∀ (j : Nat) (u : Value), (Pr.cells x)[j]? = some u → w2.cell? ⟨g, i * 3 + j, none⟩ = some u)
    (hoth : ∀ o, (o < k * 3 ∨ k * 3 + 3 ≤ o) → F.cell? ⟨g, o, none⟩ = w2.cell? ⟨g, o, none⟩)
    (hnew : ∀ (j : Nat) (u : Value), (Pr.cells (upd t))[j]? = some u → F.cell? ⟨g, k * 3 + j, none⟩ = some u) :
    Sl F F.heap.size 3 Pr.cells (some ⟨g, 0, none⟩) n (ts.modify k upd) := by
  refine ⟨by rw [List.length_modify, hl], fun _ => ⟨g, 0, rfl, hg, fun i x hx j u hu => ?_⟩⟩
  have hj : j < 3 := by have := (List.getElem?_eq_some_iff.1 hu).1; rwa [Pr.size] at this
  rw [Nat.zero_add]
  rw [List.getElem?_modify] at hx
  by_cases hik : k = i
  · subst hik
    rw [ht] at hx
    simp at hx
    subst hx
    exact hnew j u hu
  · simp [hik] at hx
    rw [hoth _ (by omega)]
    exact hold i x hx j u hu
theorem three {t : Pr} {P : Nat → Value → Prop} (h0 : P 0 (.int .i64 t.a)) (h1 : P 1 (.int .i64 t.b)) (h2 : P 2 (.int .i64 t.cnt)) : ∀ (j : Nat) (u : Value), (Pr.cells t)[j]? = some u → P j u := by
  intro j u hu
  match j, hu with
  | 0, hu => simp [Pr.cells] at hu; subst hu; exact h0
  | 1, hu => simp [Pr.cells] at hu; subst hu; exact h1
  | 2, hu => simp [Pr.cells] at hu; subst hu; exact h2
  | j + 3, hu => simp [Pr.cells] at hu

set_option maxRecDepth 100000 in
set_option maxHeartbeats 4000000 in
theorem train_any (A : Option Addr) (n c : Nat) (ts : List Pr) (a b : Int) (w : World) (hs : Sl w w.heap.size 3 Pr.cells A n ts) (hn : n ≤ 900000) (hgood : Good ts) :
    Calls Try.prog 7 #[.agg #[.slice A n c], .int .i64 a, .int .i64 b] w (Gives (train ts a b) w) := by
  have HS := Lib.hid hgood.1
  have HGD := Lib.hid hgood.2
  have HLEN := Lib.hid hs.len
  clear hgood
  go_enter Try.func7, Try.ntmps7
  go_wp2_with fail
  obtain ⟨W, hW⟩ : ∃ W, W = (w.alloc (.cells #[.slice A n c] 25)).alloc (.cells #[.slice none 0 0] 25) := ⟨_, rfl⟩
  rw [← hW]
  have hWb : Below w.heap.size w W := by rw [hW]; exact (by repeat (first | (with_reducible exact (Below.refl _ _)) | (with_reducible refine Below.drew ?_) | (with_reducible refine below_drewN ?_ _) | (with_reducible refine Below.setCell ?_ ?_ _; rotate_left; (first | omega | (simp <;> omega))) | (with_reducible refine Below.alloc ?_ ?_ _; rotate_left; (first | omega | (simp <;> omega)))))
  have hWz : W.heap.size = w.heap.size + 2 := by rw [hW]; simp
  have hsW := (hs.below hWb).mono (B' := W.heap.size) (by omega)
  refine (CloneTrk.any A n c (ts.flatMap Pr.cells) W (hsW.src Pr.size).1 (hsW.src Pr.size).2 (by rw [flat_len Pr.size, hs.len]) (by omega) (one_cells ts)).mono ?_
  rintro e w1 ⟨A1, c1, rfl, hown, hb1⟩
  have hz1 := hb1.size
  have d0 := (belc hb1 (b := w.heap.size) (o := 0) (by omega)).trans (show W.cell? ⟨w.heap.size, 0, none⟩ = some (.slice A n c) from (by rw [hW, cell_old _ _ _ _ (by simp <;> omega), cell_new _ _ _ _ _ (by simp <;> omega)]; rfl))
  have d3 := (belc hb1 (b := w.heap.size + 1) (o := 0) (by omega)).trans (show W.cell? ⟨w.heap.size + 1, 0, none⟩ = some (.slice none 0 0) from (by rw [hW, cell_new _ _ _ _ _ (by simp <;> omega)]; rfl))
  have d4 := (belf hb1 (b := w.heap.size + 1) (o := 0) (by omega)).trans (show W.frozen? ⟨w.heap.size + 1, 0, none⟩ = false from (by rw [hW, frozen_new _ _ _ _ _ (by simp <;> omega)]))
  have HZ := Lib.hid hWz
  have hbw1 : Below w.heap.size w w1 := hWb.trans (hb1.mono (by omega))
  clear hW hWz
  go_wp2_with fail
  refine (search_any A n c ts a b w1 (hs.up hbw1) HS.out (by omega)).mono ?_
  rintro e w2 ⟨rfl, hb2⟩
  have hz2 := hb2.size
  have hbw2 : Below w.heap.size w w2 := hbw1.trans (hb2.mono hbw1.size)
  have e3 := (belc hb2 (b := w.heap.size + 1) (o := 0) (by have := HZ.out; omega)).trans d3
  have e4 := (belf hb2 (b := w.heap.size + 1) (o := 0) (by have := HZ.out; omega)).trans d4
  have hown2 := own_below hown hb2
  have hbk : ∀ k, (Value.slice A1 n c1).ownBlock = some k → w.heap.size + 2 ≤ k ∧ k < w1.heap.size := fun k hk => by have := hown.lt k hk; have := HZ.out; omega
  have HBK := Lib.hid hbk
  have hl2 : w.heap.size + 1 < w2.heap.size := by have := HZ.out; omega
  clear hbk d0 d3 d4
  by_cases hh : hit ts a b = true
  · have HH := Lib.hid hh
    rw [HH.out]
    obtain ⟨t, ht, hta, htb⟩ := hit_some hh
    have hle : lowb ts a b < n := by rw [← HLEN.out]; exact (List.getElem?_eq_some_iff.1 ht).1
    obtain ⟨g, c2, hA1, hbg, hgl⟩ := hown2.form (by omega)
    injection hA1 with hA1 _ hc12
    subst hA1 hc12
    obtain ⟨k, hk⟩ : ∃ k, k = lowb ts a b := ⟨_, rfl⟩
    rw [← hk] at ht hle
    rw [← hk]
    have hgb := HBK.out g rfl
    have hold : ∀ (i : Nat) (x : Pr), ts[i]? = some x → ∀ (j : Nat) (u : Value), (Pr.cells x)[j]? = some u → w2.cell? ⟨g, i * 3 + j, none⟩ = some u := fun i x hx j u hu => by
      have hj : j < 3 := by have := (List.getElem?_eq_some_iff.1 hu).1; rwa [Pr.size] at this
      have hi := (List.getElem?_eq_some_iff.1 hx).1
      rw [HLEN.out] at hi
      rw [hown2.cellAt _ (by omega)]; exact flat_get Pr.size ts i x hx j u hu
    have f0 : w2.cell? ⟨g, k * 3, none⟩ = some (.int .i64 t.a) := hold k t ht 0 _ rfl
    have f1 : w2.cell? ⟨g, k * 3 + 1, none⟩ = some (.int .i64 t.b) := hold k t ht 1 _ rfl
    have f2 : w2.cell? ⟨g, k * 3 + 2, none⟩ = some (.int .i64 t.cnt) := hold k t ht 2 _ rfl
    have fz : ∀ j, w2.frozen? ⟨g, j, none⟩ = false := fun j => hown2.frozenAt j
    have HTR := Lib.hid (show train ts a b = ts.modify k upd from by rw [train, hh, hk]; rfl)
    obtain ⟨hsb0, hsb1⟩ := HGD.out k t ht
    have HO := Lib.hid hold
    have HT := Lib.hid ht
    have hn1 : ¬ g = w.heap.size + 1 := by omega
    have hlog : w.heap.size ≤ g := by omega
    have HOWN := Lib.hid hown2
    clear hh ht hk hold hgb hown hown2 hta htb
    go_wp2
    all_goals
      refine bodyPost_ret (v := .agg #[.slice (some ⟨g, 0, none⟩) n c1]) (by simp [results, Try.results7, go_sem, e3]) rfl ⟨_, n, c1, rfl, ?_, (by repeat (first | (with_reducible exact hbw2) | (with_reducible refine Below.drew ?_) | (with_reducible refine below_drewN ?_ _) | (with_reducible refine Below.setCell ?_ ?_ _; rotate_left; (first | omega | (simp <;> omega))) | (with_reducible refine Below.alloc ?_ ?_ _; rotate_left; (first | omega | (simp <;> omega))))), by rintro ad ⟨⟩; exact hlog⟩
      rw [HTR.out]
      refine sl_upd (w2 := w2) HLEN.out (by simpa using hgl) HT.out HO.out (fun o ho => ?_) (three ?_ ?_ ?_)
      · repeat rw [set_other _ _ _ _ (by intro e; injection e with e1 e2; omega)]
      · simp [go_sem, upd, f0]
      · simp [go_sem, upd, f1]
      · simp [go_sem, upd, f2] <;> omega
  · have hh : hit ts a b = false := by simpa using hh
    have HH := Lib.hid hh
    rw [HH.out]
    by_cases hlt : n < 256
    · have HTR := Lib.hid (show train ts a b = ts.take (lowb ts a b) ++ ⟨a, b, 1⟩ :: ts.drop (lowb ts a b) from by rw [train, hh, if_neg (by simp), if_pos (by rw [HLEN.out]; exact hlt)])
      have hltI : (n : Int) < 256 := by omega
      have hle := lowb_le ts a b
      rw [HLEN.out] at hle
      clear hh
      go_wp2_with fail
      refine (InsTrk.any (.slice A1 n c1) n (lowb ts a b) (ts.flatMap Pr.cells) (Pr.cells ⟨a, b, 1⟩) W.heap.size w2.heap.size _ (hown2.alloc _) hle (by omega) (by simp; omega) rfl (heap_alloc_new w2 _) (fun e => by have := HBK.out _ e; omega) (by simp [Pr.cells, Value.oneCell']) (one_cells ts)).mono ?_
      rintro e w3 ⟨A3, c3, rfl, hown3, hgr3⟩
      have hz3 := hgr3.size
      simp only [World.size_alloc] at hz3
      have g3 : w3.cell? ⟨w.heap.size + 1, 0, none⟩ = some (.slice none 0 0) := ((gcell hgr3).1 _ _ (by simp; omega) (fun e => by have := HBK.out _ e.symm; omega)).trans ((cell_old _ _ _ _ hl2).trans e3)
      have g4 : w3.frozen? ⟨w.heap.size + 1, 0, none⟩ = false := ((gcell hgr3).2 _ _ (by simp; omega) (fun e => by have := HBK.out _ e.symm; omega)).trans ((frozen_old _ _ _ _ hl2).trans e4)
      have hb3 : Below w.heap.size w w3 := hbw2.trans (((Below.refl _ _).alloc (by omega) _).grown hgr3 (by simp; omega) (fun k hk => by have := HBK.out _ hk; omega))
      have hne2 : (Value.slice A3 (n + 1) c3).ownBlock ≠ some (w.heap.size + 1) := fun e => by have := hown3.lt _ e; have := HZ.out; omega
      have hrow : (ts.flatMap Pr.cells).take (lowb ts a b * 3) ++ Pr.cells ⟨a, b, 1⟩ ++ (ts.flatMap Pr.cells).drop (lowb ts a b * 3) = (train ts a b).flatMap Pr.cells := by
        rw [flat_take Pr.size, flat_drop Pr.size, HTR.out]; simp
      rw [hrow] at hown3
      have HLE := Lib.hid (show (train ts a b).length = n + 1 from by rw [HTR.out]; simp [HLEN.out]; omega)
      have HO3 := Lib.hid hown3
      clear hrow hown3 hown2 hown
      go_wp2
      refine bodyPost_ret (v := .agg #[.slice A3 (n + 1) c3]) (by simp [results, Try.results7, go_sem, g3]) rfl ⟨A3, n + 1, c3, rfl, ?_, (by repeat (first | (with_reducible exact hb3) | (with_reducible refine Below.drew ?_) | (with_reducible refine below_drewN ?_ _) | (with_reducible refine Below.setCell ?_ ?_ _; rotate_left; (first | omega | (simp <;> omega))) | (with_reducible refine Below.alloc ?_ ?_ _; rotate_left; (first | omega | (simp <;> omega))))), own_lo HO3.out (by have := HZ.out; omega)⟩
      exact Sl.of_own Pr.size HLE.out (own_setCell HO3.out _ hne2)
    · have HTR := Lib.hid (show train ts a b = ts from by rw [train, hh, if_neg (by simp), if_neg (by rw [HLEN.out]; exact hlt)])
      have hltI : ¬ (n : Int) < 256 := by omega
      have hne2 : (Value.slice A1 n c1).ownBlock ≠ some (w.heap.size + 1) := fun e => by have := HBK.out _ e; omega
      have HO2 := Lib.hid hown2
      clear hh hown hown2
      go_wp2
      refine bodyPost_ret (v := .agg #[.slice A1 n c1]) (by simp [results, Try.results7, go_sem, e3]) rfl ⟨A1, n, c1, rfl, ?_, (by repeat (first | (with_reducible exact hbw2) | (with_reducible refine Below.drew ?_) | (with_reducible refine below_drewN ?_ _) | (with_reducible refine Below.setCell ?_ ?_ _; rotate_left; (first | omega | (simp <;> omega))) | (with_reducible refine Below.alloc ?_ ?_ _; rotate_left; (first | omega | (simp <;> omega))))), own_lo HO2.out (by have := HZ.out; omega)⟩
      rw [HTR.out]
      exact Sl.of_own Pr.size HLEN.out (own_setCell HO2.out _ hne2)
end Go.Proofs.Yteeglmlmconbmaa
