/- Decay. -/
import Derived.Test.YteeglmlmconbmaaD
namespace Go.Proofs.Yteeglmlmconbmaa
open Go.RowKit

def half (x : Pr) : Pr := ⟨x.a, x.b, x.cnt / 2⟩
def decayP (ts : List Pr) : List Pr := (ts.map half).filter (fun x => decide (1 ≤ x.cnt))
theorem decay_next {ts : List Pr} {k : Nat} {x : Pr} (hx : ts[k]? = some x) : decayP (ts.take (k + 1)) = decayP (ts.take k) ++ if 1 ≤ x.cnt / 2 then [half x] else [] := by
  rw [decayP, List.take_add_one, hx]
  simp only [Option.toList, List.map_append, List.filter_append, List.map_cons, List.map_nil]
  congr 1
  simp only [List.filter_cons, List.filter_nil, half]
  split <;> split <;> simp_all
theorem decay_len (ts : List Pr) : (decayP ts).length ≤ ts.length := by
  unfold decayP
  exact Nat.le_trans (List.length_filter_le _ _) (by simp)

set_option maxRecDepth 100000 in
set_option maxHeartbeats 2000000 in
theorem decay_any (A : Option Addr) (n c : Nat) (ts : List Pr) (w : World) (hs : Sl w w.heap.size 3 Pr.cells A n ts) (hn : n ≤ 900000) (hgood : ∀ (i : Nat) (t : Pr), ts[i]? = some t → 1 ≤ t.cnt ∧ t.cnt ≤ 1048576) :
    Calls Try.prog 10 #[.agg #[.slice A n c]] w (Gives (decayP ts) w) := by
  obtain ⟨i0, hi, hz0, hz1, hz2⟩ := info_parts CloneTrk.infoE
  have HGD := Lib.hid hgood
  have HL := Lib.hid hs.len
  clear hgood
  obtain ⟨W, hW⟩ : ∃ W, W = ((w.alloc (.cells #[.slice A n c] 25)).alloc (.cells #[.slice none 0 0] 25)).alloc (.cells #[.slice none 0 0] 25) := ⟨_, rfl⟩
  have hWb : Below w.heap.size w W := by rw [hW]; exact (by repeat (first | (with_reducible exact (Below.refl _ _)) | (with_reducible refine Below.drew ?_) | (with_reducible refine below_drewN ?_ _) | (with_reducible refine Below.setCell ?_ ?_ _; rotate_left; (first | omega | (simp <;> omega))) | (with_reducible refine Below.alloc ?_ ?_ _; rotate_left; (first | omega | (simp <;> omega)))))
  have hWz : W.heap.size = w.heap.size + 3 := by rw [hW]; simp
  have q0 : W.cell? ⟨w.heap.size, 0, none⟩ = some (.slice A n c) := (by rw [hW, cell_old _ _ _ _ (by simp <;> omega), cell_old _ _ _ _ (by simp <;> omega), cell_new _ _ _ _ _ (by simp <;> omega)]; rfl)
  have q2 : W.cell? ⟨w.heap.size + 1, 0, none⟩ = some (.slice none 0 0) := (by rw [hW, cell_old _ _ _ _ (by simp <;> omega), cell_new _ _ _ _ _ (by simp <;> omega)]; rfl)
  have q2f : W.frozen? ⟨w.heap.size + 1, 0, none⟩ = false := (by rw [hW, frozen_old _ _ _ _ (by simp <;> omega), frozen_new _ _ _ _ _ (by simp <;> omega)])
  have q3 : W.cell? ⟨w.heap.size + 2, 0, none⟩ = some (.slice none 0 0) := (by rw [hW, cell_new _ _ _ _ _ (by simp <;> omega)]; rfl)
  have q3f : W.frozen? ⟨w.heap.size + 2, 0, none⟩ = false := (by rw [hW, frozen_new _ _ _ _ _ (by simp <;> omega)])
  have HO0 : Hid (Out W (w.heap.size + 3) (w.heap.size + 2) (.slice none 0 0) []) := Lib.hid ⟨q3, q3f, World.ownsRow_nil _ _ _ _, by omega, by omega⟩
  have HQ := Lib.hid (show W.cell? ⟨w.heap.size + 1, 0, none⟩ = some (.slice none 0 0) ∧ W.frozen? ⟨w.heap.size + 1, 0, none⟩ = false from ⟨q2, q2f⟩)
  have HWB := Lib.hid hWb
  have HZ := Lib.hid hWz
  clear q2 q2f q3 q3f hWb hWz
  go_enter Try.func10, Try.ntmps10
  go_wp2_with fail
  rw [← hW]
  clear hW
  go_loopw [9] (fun i wr => ∃ (k : Nat) (v : Value), k ≤ n ∧ i = .int .i64 k ∧ Hid (Out wr (w.heap.size + 3) (w.heap.size + 2) v (decayP (ts.take k))) ∧ Hid (Below (w.heap.size + 2) W wr)) (fun i _ => n - (intOf i).toNat)
  case atStart => exact ⟨0, _, Nat.zero_le _, rfl, HO0, Lib.hid (Below.refl _ _)⟩
  case round =>
    obtain ⟨k, v, hk, rfl, hO, hb⟩ := hrel
    have HR := Lib.hid (show Below w.heap.size w wr from HWB.out.trans (hb.out.mono (by omega)))
    have hlr : w.heap.size + 3 ≤ wr.heap.size := hO.out.le
    have hl2 : w.heap.size + 2 < wr.heap.size := by omega
    have hl1 : w.heap.size + 1 < wr.heap.size := by omega
    have r1 : wr.cell? ⟨w.heap.size + 1, 0, none⟩ = some (.slice none 0 0) := (belc hb.out (by omega)).trans HQ.out.1
    have r1f : wr.frozen? ⟨w.heap.size + 1, 0, none⟩ = false := (belf hb.out (by omega)).trans HQ.out.2
    have r2 := hO.out.cell
    have r2f := hO.out.fr
    obtain ⟨l, hl⟩ : ∃ l, l = decayP (ts.take k) := ⟨_, rfl⟩
    rw [← hl] at hO
    have HLL := Lib.hid hl
    have HLK := Lib.hid (show l.length ≤ k from by rw [hl]; exact Nat.le_trans (decay_len _) (by rw [List.length_take]; omega))
    clear hl
    by_cases hlt : k < n
    · obtain ⟨ab, ao, rfl, hlo, hat⟩ := hs.at_ (by omega)
      obtain ⟨x, hx⟩ : ∃ x, ts[k]? = some x := ⟨_, List.getElem?_eq_getElem (by rw [HL.out]; exact hlt)⟩
      have c0 : wr.cell? ⟨ab, ao + k * 3, none⟩ = some (.int .i64 x.a) := (belc HR.out hlo).trans (hat k x hx 0 _ rfl)
      have c1 : wr.cell? ⟨ab, ao + k * 3 + 1, none⟩ = some (.int .i64 x.b) := (belc HR.out hlo).trans (hat k x hx 1 _ rfl)
      have c2 : wr.cell? ⟨ab, ao + k * 3 + 2, none⟩ = some (.int .i64 x.cnt) := (belc HR.out hlo).trans (hat k x hx 2 _ rfl)
      obtain ⟨hg0, hg1⟩ := HGD.out k x hx
      have HX := Lib.hid hx
      clear hat hx
      by_cases hc : 1 ≤ x.cnt / 2
      · have HHC := Lib.hid (show decayP (ts.take (k + 1)) = l ++ [half x] from by rw [decay_next HX.out, ← HLL.out, if_pos hc])
        have HBB := Lib.hid ((by repeat (first | (with_reducible exact (Below.refl wr.heap.size wr)) | (with_reducible refine Below.drew ?_) | (with_reducible refine below_drewN ?_ _) | (with_reducible refine Below.setCell ?_ ?_ _; rotate_left; (first | omega | (simp <;> omega))) | (with_reducible refine Below.alloc ?_ ?_ _; rotate_left; (first | omega | (simp <;> omega))))) : Below wr.heap.size wr ((wr.alloc (.cells #[.int .i64 x.a, .int .i64 x.b, .int .i64 (x.cnt / 2)] 28)).alloc (.cells #[.int .i64 x.a, .int .i64 x.b, .int .i64 (x.cnt / 2)] 28)))
        have HNW := Lib.hid (show ∀ ad, (some ⟨wr.heap.size + 1, 0, none⟩ : Option Addr) = some ad → ∀ (j : Nat) (u : Value), (Pr.cells (half x))[j]? = some u → ((wr.alloc (.cells #[.int .i64 x.a, .int .i64 x.b, .int .i64 (x.cnt / 2)] 28)).alloc (.cells #[.int .i64 x.a, .int .i64 x.b, .int .i64 (x.cnt / 2)] 28)).cell? (ad.add j) = some u from fun ad h j u hu => by
          injection h with h
          subst h
          rw [Addr.add_lit, cell_new _ _ _ _ _ (by simp), Nat.zero_add, List.getElem?_toArray]
          exact hu)
        go_wp2_with (at_builtin; refine wpList_append_any rfl _ _ 23 rfl (w.heap.size + 3) 28 i0 _ 3 24 Try.underlying23 hi hz0 hz1 hz2 rfl (by decide) v l.length (l.flatMap Pr.cells) rfl (own_below hO.out.own HBB.out) (some ⟨wr.heap.size + 1, 0, none⟩) 1 1 (Pr.cells (half x)) rfl (by intro h; cases h) rfl HNW.out (by simp [Pr.cells, Value.oneCell']) (by have := HLK.out; unfold maxLen; omega) (by have := HLK.out; omega) (by simp; omega) ?_; intro A3 c3 w3 hown3 hgr3 _; have hmo := hO.out.more HBB.out hgr3; have u2 := hmo.1; have u2f := hmo.2.1; have hb3 := hmo.2.2)
        have HW3 := Lib.hid hown3
        have hz3 := hb3.size
        clear hown3 hgr3 hmo
        go_roundw
        case rel => exact ⟨k + 1, _, by omega, by go_num, Lib.hid (by rw [HHC.out]; exact ⟨World.cell?_setCell_same _ _ _ u2, by rw [World.frozen?_setCell]; exact u2f, (by
            have h5 := HW3.out
            rw [List.length_append, List.flatMap_append]
            exact own_setCell (by simpa using h5) _ (fun e => by have := h5.lt _ e; first | omega | (simp at this <;> omega))), by omega, by simp; omega⟩), Lib.hid ((hb.out.trans (hb3.mono (by omega))).setCell (by show _ ≤ _; simp) _)⟩
        case measure => simp [intOf]; omega
      · have HHC := Lib.hid (show decayP (ts.take (k + 1)) = l from by rw [decay_next HX.out, ← HLL.out, if_neg hc, List.append_nil])
        go_wp2
        go_roundw
        case rel => exact ⟨k + 1, v, by omega, by go_num, Lib.hid (by rw [HHC.out]; exact hO.out.below ((by repeat (first | (with_reducible exact (Below.refl _ _)) | (with_reducible refine Below.drew ?_) | (with_reducible refine below_drewN ?_ _) | (with_reducible refine Below.setCell ?_ ?_ _; rotate_left; (first | omega | (simp <;> omega))) | (with_reducible refine Below.alloc ?_ ?_ _; rotate_left; (first | omega | (simp <;> omega))))))), Lib.hid ((by repeat (first | (with_reducible exact hb.out) | (with_reducible refine Below.drew ?_) | (with_reducible refine below_drewN ?_ _) | (with_reducible refine Below.setCell ?_ ?_ _; rotate_left; (first | omega | (simp <;> omega))) | (with_reducible refine Below.alloc ?_ ?_ _; rotate_left; (first | omega | (simp <;> omega))))))⟩
        case measure => simp [intOf]; omega
    · obtain rfl : k = n := by omega
      have HE := Lib.hid (show l = decayP ts from by rw [HLL.out, List.take_of_length_le (by rw [HL.out]; exact Nat.le_refl _)])
      obtain ⟨A', c', hv⟩ : ∃ A' c', v = .slice A' l.length c' := by
        rcases hO.out.own.2 with ⟨h, h0⟩ | ⟨g, cap, cur, h, _⟩
        · exact ⟨none, 0, by rw [h0]; exact h⟩
        · exact ⟨_, _, h⟩
      subst hv
      go_wp2
      refine bodyPost_ret (v := .agg #[.slice A' l.length c']) (by simp [results, Try.results10, go_sem, r1, r1f]) rfl ⟨A', _, c', rfl, ?_, (by repeat (first | (with_reducible exact HR.out) | (with_reducible refine Below.drew ?_) | (with_reducible refine below_drewN ?_ _) | (with_reducible refine Below.setCell ?_ ?_ _; rotate_left; (first | omega | (simp <;> omega))) | (with_reducible refine Below.alloc ?_ ?_ _; rotate_left; (first | omega | (simp <;> omega))))), own_lo hO.out.own (by omega)⟩
      have h5 := hO.out.own
      rw [← HE.out]
      exact Sl.of_own Pr.size rfl (own_setCell h5 _ (fun e => by have := h5.lt _ e; first | omega | (simp at this <;> omega)))
end Go.Proofs.Yteeglmlmconbmaa
