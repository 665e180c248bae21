/- What a thread sees in a word. -/
import Derived.Test.YtnomghcieomjmaaJ
namespace Go.Proofs.Ytnomghcieomjmaa
open Go.RowKit Go.Shelf
attribute [local go_sem] Oper.semAt_some

def loadB (mem : Nat → Int) (q : List Wt) (wd : Nat) : Int := match q.reverse.find? (fun x => decide (x.word = (wd : Int))) with | some x => x.n | none => mem wd

theorem bseq_map (q : List Wt) : ∀ k, k ≤ q.length → (bseq q k).map (·.2) = q.reverse.take k
  | 0, _ => rfl
  | k + 1, h => by
    rw [bseq_succ, List.map_append, bseq_map q k (by omega), List.take_add_one]
    congr 1
    have h1 : q.length - 1 - k < q.length := by omega
    simp only [List.map_cons, List.map_nil]
    rw [List.getElem?_eq_getElem (l := q.reverse) (by rw [List.length_reverse]; omega), List.getElem_reverse, List.getElem?_eq_getElem h1]
    rfl
theorem loadB_none {mem : Nat → Int} {q : List Wt} {n wd : Nat} (hn : q.length = n) (h : ∀ y ∈ bseq q n, y.2.word ≠ (wd : Int)) : loadB mem q wd = mem wd := by
  have h1 := bseq_map q n (by omega)
  rw [List.take_of_length_le (by rw [List.length_reverse]; omega)] at h1
  have h2 : q.reverse.find? (fun x => decide (x.word = (wd : Int))) = none := by
    rw [List.find?_eq_none]
    intro x hx
    rw [← h1] at hx
    obtain ⟨y, hy, rfl⟩ := List.mem_map.1 hx
    simpa using h y hy
  unfold loadB
  rw [h2]
theorem loadB_some {mem : Nat → Int} {q : List Wt} {k wd : Nat} {ini : List (Nat × Wt)} {last : Nat × Wt} (hk : k ≤ q.length) (h : bseq q k = ini ++ [last]) (h0 : ∀ y ∈ ini, y.2.word ≠ (wd : Int)) (h1 : last.2.word = (wd : Int)) : loadB mem q wd = last.2.n := by
  have h2 := bseq_map q k hk
  rw [h, List.map_append] at h2
  have h3 : q.reverse.find? (fun x => decide (x.word = (wd : Int))) = some last.2 := by
    rw [← List.take_append_drop k q.reverse, ← h2, List.find?_append, List.find?_append]
    have h4 : (ini.map (·.2)).find? (fun x => decide (x.word = (wd : Int))) = none := by
      rw [List.find?_eq_none]
      intro x hx
      obtain ⟨y, hy, rfl⟩ := List.mem_map.1 hx
      simpa using h0 y hy
    rw [h4]
    simp [h1]
  unfold loadB
  rw [h3]

set_option maxRecDepth 100000 in
set_option maxHeartbeats 2000000 in
theorem load_any (mem : Nat → Int) (SA : Option Addr) (sn sc : Nat) (t : Tr) (wd : Nat) (w : World) (hwd : wd < 4) (hq : Sl w w.heap.size 2 Wt.cells t.A t.n t.q) (hcap : t.n ≤ 1000) :
    Calls Try.prog 38 #[.agg #[.int .i64 (mem 0), .int .i64 (mem 1), .int .i64 (mem 2), .int .i64 (mem 3), .slice SA sn sc], .agg t.cells.toArray, .int .i64 wd] w fun e w' => e = .returned (.int .i64 (loadB mem t.q wd)) ∧ Below w.heap.size w w' := by
  refine (callsIn_wide (n := 5)).1 ?_
  refine callsIn_of_wp_marks Try.func38 rfl trivial ?_ rfl
  obtain ⟨W0, hW0⟩ : ∃ W0, W0 = (((w.alloc (.cells #[.int .i64 (mem 0), .int .i64 (mem 1), .int .i64 (mem 2), .int .i64 (mem 3), .slice SA sn sc] 31)).alloc (.cells t.cells.toArray 47)).alloc (.cells #[.int .i64 wd] 3)).alloc (.cells #[.int .i64 0] 3) := ⟨_, rfl⟩
  have hb0 : Below w.heap.size w W0 := by rw [hW0]; exact (by repeat (first | (with_reducible exact (Below.refl _ _)) | (with_reducible refine Below.drew ?_) | (with_reducible refine below_drewN ?_ _) | (with_reducible refine Below.setCell ?_ ?_ _; rotate_left; (first | omega | (simp <;> omega))) | (with_reducible refine Below.alloc ?_ ?_ _; rotate_left; (first | omega | (simp <;> omega)))))
  have hz0 : W0.heap.size = w.heap.size + 4 := by rw [hW0]; simp
  have m16 : W0.cell? ⟨w.heap.size + 1, 16, none⟩ = some (.slice t.A t.n t.c) := (by rw [hW0, cell_old _ _ _ _ (by simp <;> omega), cell_old _ _ _ _ (by simp <;> omega), cell_new _ _ _ _ _ (by simp <;> omega)]; rfl)
  simp only [Try.ntmps38, List.size_toArray, List.length_cons, List.length_nil, Nat.reduceAdd, Nat.reduceSub, Array.replicate_succ, Array.replicate_zero, List.push_toArray, List.append_toArray, List.nil_append, List.cons_append]
  have q16 : t.cells.toArray[16]? = some (.slice t.A t.n t.c) := rfl
  have q16' : t.cells[16]? = some (.slice t.A t.n t.c) := rfl
  gi_wp2_with fail
  rw [← hW0]
  refine ⟨trivial, ?_⟩
  have HW0 := Lib.hid hW0
  clear hW0
  have M16 := Lib.hid m16
  clear m16 q16 q16'
  refine (back_in Fence.wide _ trivial rfl _ _ _ _).mono ?_
  rintro e w' ⟨rfl, rfl⟩
  obtain ⟨W1, hW1⟩ : ∃ W1, W1 = W0.alloc (.cells #[.slice t.A t.n t.c] 45) := ⟨_, rfl⟩
  have hb1 : Below W0.heap.size W0 W1 := by rw [hW1]; exact (by repeat (first | (with_reducible exact (Below.refl _ _)) | (with_reducible refine Below.drew ?_) | (with_reducible refine below_drewN ?_ _) | (with_reducible refine Below.setCell ?_ ?_ _; rotate_left; (first | omega | (simp <;> omega))) | (with_reducible refine Below.alloc ?_ ?_ _; rotate_left; (first | omega | (simp <;> omega)))))
  have hz1 : W1.heap.size = w.heap.size + 5 := by rw [hW1]; simp [hz0]
  have hbw1 : Below w.heap.size w W1 := hb0.trans (hb1.mono hb0.size)
  rw [hz0, ← hW1]
  have HW1 := Lib.hid hW1
  clear hW1
  have q5 : W1.cell? ⟨w.heap.size + 4, 0, none⟩ = some (.slice t.A t.n t.c) := by rw [HW1.out, cell_new _ _ _ _ _ hz0.symm]; rfl
  have r0 : W1.cell? ⟨w.heap.size + 3, 0, none⟩ = some (.int .i64 0) := (belc hb1 (by omega)).trans (by rw [HW0.out, cell_new _ _ _ _ _ (by simp <;> omega)]; rfl)
  have r0f : W1.frozen? ⟨w.heap.size + 3, 0, none⟩ = false := (belf hb1 (by omega)).trans (by rw [HW0.out, frozen_new _ _ _ _ _ (by simp <;> omega)])
  have wd0 : W1.cell? ⟨w.heap.size + 2, 0, none⟩ = some (.int .i64 wd) := (belc hb1 (by omega)).trans (by rw [HW0.out, cell_old _ _ _ _ (by simp <;> omega), cell_new _ _ _ _ _ (by simp <;> omega)]; rfl)
  have md : W1.cell? ⟨w.heap.size, wd, none⟩ = some (.int .i64 (mem wd)) := (belc hb1 (by omega)).trans (by
    rw [HW0.out, cell_old _ _ _ _ (by simp <;> omega), cell_old _ _ _ _ (by simp <;> omega), cell_old _ _ _ _ (by simp <;> omega), cell_new _ _ _ _ _ rfl]
    match wd, hwd with
    | 0, _ => rfl
    | 1, _ => rfl
    | 2, _ => rfl
    | 3, _ => rfl)
  have Q1 := Lib.hid (hq.up hbw1)
  gi_wp2
  refine wpIn_rangeFunc_ownH rfl (by omega) (gf := 63) (lb := #[.pointer (some ⟨w.heap.size + 4, 0, none⟩)]) rfl trivial (enters_of Try.func63 (by kernel_rfl) rfl)
    (back_stops Fence.wide 4 trivial rfl (by omega) (w.heap.size + 4) W1.heap.size t.A t.n t.c t.q W1 (by omega) (Nat.le_refl _) q5 Q1.out (by omega)) belowK_t (belowK_b (Nat.le_refl _)) (Below.refl _ _) (fun _ => rfl)
    (fun pre W => ((∀ y ∈ pre, y.2.word ≠ (wd : Int)) ∧ W.cell? ⟨w.heap.size + 3, 0, none⟩ = some (.int .i64 0) ∧ W.frozen? ⟨w.heap.size + 3, 0, none⟩ = false ∧ W.cell? ⟨w.heap.size + 2, 0, none⟩ = some (.int .i64 wd) ∧ W.cell? ⟨w.heap.size, wd, none⟩ = some (.int .i64 (mem wd)) ∧ W1.heap.size ≤ W.heap.size) ∧ Below w.heap.size w W)
    (fun c pre W => (c = .ret ∧ ∃ ini last, pre = ini ++ [last] ∧ (∀ y ∈ ini, y.2.word ≠ (wd : Int)) ∧ last.2.word = (wd : Int) ∧ W.cell? ⟨w.heap.size + 3, 0, none⟩ = some (.int .i64 last.2.n)) ∧ Below w.heap.size w W)
    (OwnFrom.and (Own.from (fun s A B row hs hg hr => ⟨hs.1, cell_kept hs.2.1 hg hr, (frozen_kept hs.2.1 hg hr).trans hs.2.2.1, cell_kept hs.2.2.2.1 hg hr, cell_kept hs.2.2.2.2.1 hg hr, Nat.le_trans hs.2.2.2.2.2 hg.size⟩) _) (ownFrom_below (Nat.le_refl _) (by omega)))
    (fun c => OwnFrom.and (Own.from (fun s A B row hs hg hr => by obtain ⟨hc, ini, last, e1, e2, e3, e4⟩ := hs; exact ⟨hc, ini, last, e1, e2, e3, cell_kept e4 hg hr⟩) _) (ownFrom_below (Nat.le_refl _) (by omega)))
    ⟨⟨by simp, r0, r0f, wd0, md, Nat.le_refl _⟩, hbw1⟩
    (fun x a' W => ∃ Bx, W1.heap.size ≤ Bx ∧ W.cell? ⟨Bx, 0, none⟩ = some (.int .i64 x.2.word) ∧ W.cell? ⟨Bx, 1, none⟩ = some (.int .i64 x.2.n) ∧ a' = { tmps := #[.agg #[.int .i64 (mem 0), .int .i64 (mem 1), .int .i64 (mem 2), .int .i64 (mem 3), .slice SA sn sc], .agg t.cells.toArray, .int .i64 wd, .pointer (some ⟨w.heap.size, 0, none⟩), .pointer (some ⟨w.heap.size + 1, 0, none⟩), .pointer (some ⟨w.heap.size + 1 + 1, 0, none⟩), .pointer (some ⟨w.heap.size + 1 + 1 + 1, 0, none⟩), undef, .pointer (some ⟨Bx, 0, none⟩), .pointer (some ⟨w.heap.size + 1, 16, none⟩), .slice t.A t.n t.c, .func (.func 63) #[] #[.pointer (some ⟨w.heap.size + 4, 0, none⟩)], .int .i64 (x.1 : Int), .agg #[.int .i64 x.2.word, .int .i64 x.2.n], undef, undef, undef, undef, undef, undef, undef, undef, undef, undef], defers := [] })
    (fun x a' => Own.from (fun s A B row hs hg hr => by obtain ⟨Bx, h1, h2, h3, h4⟩ := hs; exact ⟨Bx, h1, cell_kept h2 hg hr, cell_kept h3 hg hr, h4⟩) _) ?assign ?body ?done ?stop
  case assign =>
    rintro l pre x W K ⟨hi, hB⟩ hK
    dsimp only [bwEnc]
    gi_wp2
    obtain ⟨h1, h2, h3, h4, h5, h6⟩ := hi
    have hBA : Below W.heap.size W (W.alloc (.cells #[.int .i64 x.2.word, .int .i64 x.2.n] 72)) := (Below.refl _ W).alloc (Nat.le_refl _) _
    exact hK _ _ ((KeepsOthers.alloc _ _).from _) ((Below.refl _ W).alloc h6 _) ⟨⟨h1, (belc hBA (by omega)).trans h2, (belf hBA (by omega)).trans h3, (belc hBA (by omega)).trans h4, (belc hBA (by omega)).trans h5, by have := hBA.size; omega⟩, hB.alloc hB.size _⟩ ⟨W.heap.size, by omega, by rw [cell_new _ _ _ _ _ rfl]; rfl, by rw [cell_new _ _ _ _ _ rfl]; rfl, rfl⟩
  case body =>
    rintro l pre x a' W hl ⟨r, hr⟩ ⟨⟨hp, hc0, hf0, hw0, hm0, hz6⟩, hB⟩ ⟨Bx, hBx, x0, x1, rfl⟩ hlt
    by_cases hx : x.2.word = (wd : Int)
    · rw [hx] at x0
      gi_wp2
      exact ⟨(KeepsOthers.setCell _ _ _).from _, ⟨rfl, pre, x, rfl, hp, hx, World.cell?_setCell_same' _ _ _ (by rw [hc0]; rfl)⟩, hB.setCell (p := ⟨w.heap.size + 3, 0, none⟩) (by show w.heap.size ≤ w.heap.size + 3; omega) _⟩
    · have hx' : (x.2.word == (wd : Int)) = false := by simpa using hx
      gi_wp2
      exact ⟨KeepsFrom.refl _ _, Below.refl _ _, ⟨fun y hy => (List.mem_append.1 hy).elim (hp y) (fun e => by simp at e; subst e; exact hx), hc0, hf0, hw0, hm0, hz6⟩, hB⟩
  case done =>
    rintro D ys W hD rfl ⟨⟨hne, hc0, hf0, hw0, hm0, hz6⟩, hB⟩ hK
    gi_wp2
    have hv := loadB_none (mem := mem) Q1.out.len hne
    have hK' := (KeepsOthers.setCell W ⟨w.heap.size + 3, 0, none⟩ (.int .i64 (mem wd))).same D _ hK rfl
    refine ⟨by simp, .inl ⟨_, _, rfl, run_takeDeferred hK', ?_⟩⟩
    have hc5 := cell_kept (World.cell?_setCell_same' W ⟨w.heap.size + 3, 0, none⟩ (.int .i64 (mem wd)) (by rw [hc0]; rfl)) (grownBy_putObj' _ D (.deferred none)) (fun r e => by cases e; exact ⟨_, hK', rfl⟩)
    refine ⟨.int .i64 (mem wd), ?_, by rw [hv], (hB.setCell (p := ⟨w.heap.size + 3, 0, none⟩) (by show w.heap.size ≤ w.heap.size + 3; omega) _).trans (belowK_b (w := w) (Nat.le_refl _) _ D _ _ (by omega) hK' rfl rfl)⟩
    simp [results, Try.f38, go_sem, hc5]
  case stop =>
    rintro D c pre W hD ⟨k, hk, rfl⟩ ⟨⟨rfl, ini, last, e1, e2, e3, hcr⟩, hB⟩ hK
    gi_wp2
    refine ⟨by simp, .inl ⟨_, _, rfl, run_takeDeferred hK, ?_⟩⟩
    have hc5 := cell_kept hcr (grownBy_putObj' _ D (.deferred none)) (fun r e => by cases e; exact ⟨_, hK, rfl⟩)
    have hv := loadB_some (mem := mem) (by rw [Q1.out.len]; exact hk) e1 e2 e3
    refine ⟨.int .i64 last.2.n, ?_, by rw [hv], hB.trans (belowK_b (w := w) (Nat.le_refl _) W D _ _ (by omega) hK rfl rfl)⟩
    simp [results, Try.f38, go_sem, hc5]
end Go.Proofs.Ytnomghcieomjmaa
