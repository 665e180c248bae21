/- Which task a task waits for, of the program. -/
import Derived.Test.YteeglmlmconbmaaH
import Derived.Test.YteeglmlmconbmaaKit3
import Derived.Stop.RegionWithIn
import Derived.Shelf.Abstract
import Derived.Test.YteeglmlmconbmaaRoundPlain
import Derived.RangeFuncBox
namespace Go.Proofs.Yteeglmlmconbmaa
open Go.RowKit Go.Shelf
attribute [local go_sem] Oper.semAt_some

theorem backward_any (A : Option Addr) (n c : Nat) (w : World) :
    Calls Try.prog 16 #[.slice A n c] w fun e w' => e = .returned (.func (.func 21) #[] #[.pointer (some ⟨w.heap.size, 0, none⟩)]) ∧ w' = w.alloc (.cells #[.slice A n c] 45) := by
  go_enter Try.func16, Try.ntmps16
  go_wp2
  go_ret
  exact ⟨rfl, rfl⟩

def cnd (ts : List Pr) (thr st : Int) (t : Tk) : Bool := (t.status == 0 || t.status == 1) && decide (thr ≤ countP ts t.start st)
def waitsP (ts : List Pr) (l : List Tk) (k : Nat) (thr st : Int) : Int := match (rvTo l k).find? (fun x => cnd ts thr st x.2) with | some x => x.1 | none => -1

theorem rvTo_take (l : List Tk) (k : Nat) : ∀ j, j ≤ k → rvTo (l.take k) j = rvTo l j
  | 0, _ => rfl
  | j + 1, h => by
    unfold rvTo
    rw [List.getElem?_take, if_pos (by omega), rvTo_take l k j (by omega)]
theorem find_none {α : Type} {p : α → Bool} : ∀ {l : List α}, (∀ x ∈ l, p x = false) → l.find? p = none
  | [], _ => rfl
  | y :: l, h => by rw [List.find?_cons, h y (by simp)]; exact find_none fun x hx => h x (by simp [hx])
theorem find_at {α : Type} {p : α → Bool} {x : α} {r : List α} (hx : p x = true) : ∀ {q : List α}, (∀ y ∈ q, p y = false) → (q ++ x :: r).find? p = some x
  | [], _ => by rw [List.nil_append, List.find?_cons, hx]
  | y :: q, h => by rw [List.cons_append, List.find?_cons, h y (by simp)]; exact find_at hx fun z hz => h z (by simp [hz])
theorem mem_snoc {α : Type} {p : α → Prop} {q : List α} {x : α} (h : ∀ y ∈ q, p y) (hx : p x) : ∀ y ∈ q ++ [x], p y := fun y hy => by
  rcases List.mem_append.1 hy with h1 | h1
  · exact h y h1
  · obtain rfl := List.mem_singleton.1 h1
    exact hx
theorem keeps_of_below {B : Nat} {W W' : World} (h : Below W.heap.size W W') : KeepsFrom B W W' := ⟨h.size, fun k _ _ hk _ => (h.block k (Array.getElem?_eq_some_iff.1 hk).1).trans hk⟩
theorem keeps_set {B b : Nat} {W : World} (hb : b < B) (v : Value) : KeepsFrom B W (W.setCell ⟨b, 0, none⟩ v) := ⟨by simp, fun k _ hB hk _ => (Below.heap_setCell _ _ _ k (by show k ≠ b; omega)).trans hk⟩
theorem blk_cell {W : World} {b : Nat} {c : List Value} {t : TypeId} (h : W.heap[b]? = some (.cells c.toArray t (0, 0))) {j : Nat} {u : Value} (hu : c[j]? = some u) : W.cell? ⟨b, j, none⟩ = some u := by
  rw [cell_of_row W b j c.toArray t (0, 0) h, List.getElem?_toArray]
  exact hu

set_option maxRecDepth 100000 in
set_option maxHeartbeats 4000000 in
theorem waits_any (A : Option Addr) (n c : Nat) (ts : List Pr) (B : Option Addr) (m d : Nat) (l : List Tk) (k : Nat) (thr : Int) (s : Tk) (w : World) (hs : Sl w w.heap.size 3 Pr.cells A n ts) (hsort : Sorted ts) (hn : n ≤ 900000)
    (hl : Sl w w.heap.size 48 Tk.cells B m l) (hm : m ≤ 900000) (hd : m ≤ d) (hk : l[k]? = some s) (hth : 1 ≤ thr) :
    Calls Try.prog 11 #[.agg #[.slice A n c], .slice B m d, .int .i64 k, .int .i64 thr] w fun e w' => e = .returned (.int .i64 (waitsP ts l k thr s.start)) ∧ Below w.heap.size w w' := by
  have hkm : k < m := by rw [← hl.len]; exact (List.getElem?_eq_some_iff.1 hk).1
  obtain ⟨ab, ao, rfl, hlo, hat⟩ := hl.at_ (by omega)
  have HK := Lib.hid hk
  have HS := Lib.hid hsort
  have HSL := Lib.hid hs
  have HLL := Lib.hid hl
  have hkd : k ≤ d := by omega
  have hkI : (k : Int) < (m : Int) := by omega
  have hsl : ∀ w', (Instr.slice 45 (.slice (some ⟨ab, ao, none⟩) m d) none (some (.int .i64 (k : Int))) none).run Try.prog w' = .ok (.slice (some ⟨ab, ao, none⟩) k d) w' := slice_high (i := (Try.prog.info? 44).get!) Try.underlying45 (by kernel_rfl) hkd
  have cs : w.cell? ⟨ab, ao + k * 48, none⟩ = some (.int .i64 s.start) := hat k s hk 0 _ s.c0
  clear hat hk hsort
  refine (callsIn_wide (n := 7)).1 ?_
  refine callsIn_of_wp_marks Try.func11 rfl trivial ?_ rfl
  simp only [Try.ntmps11, List.size_toArray, List.length_cons, List.length_nil, Nat.reduceAdd, Nat.reduceSub, Array.replicate_succ, Array.replicate_zero, List.push_toArray, List.append_toArray, List.nil_append, List.cons_append]
  gi_wp2_with fail
  refine ⟨trivial, ?_⟩
  refine (callsIn_wide.2 (backward_any (some ⟨ab, ao, none⟩) k d _)).mono ?_
  rintro e w' ⟨rfl, rfl⟩
  obtain ⟨U, hU⟩ : ∃ U, U = (((((w.alloc (.cells #[.slice A n c] 25)).alloc (.cells #[.slice (some ⟨ab, ao, none⟩) m d] 45)).alloc (.cells #[.int .i64 k] 3)).alloc (.cells #[.int .i64 thr] 3)).alloc (.cells #[.int .i64 0] 3)).alloc (.cells #[.slice (some ⟨ab, ao, none⟩) k d] 45) := ⟨_, rfl⟩
  rw [← hU]
  have hzU : U.heap.size = w.heap.size + 6 := by rw [hU]; simp
  have hbU : Below w.heap.size w U := by rw [hU]; exact (by repeat (first | (with_reducible exact (Below.refl _ _)) | (with_reducible refine Below.drew ?_) | (with_reducible refine below_drewN ?_ _) | (with_reducible refine Below.setCell ?_ ?_ _; rotate_left; (first | omega | (simp <;> omega))) | (with_reducible refine Below.alloc ?_ ?_ _; rotate_left; (first | omega | (simp <;> omega)))))
  have b4 : U.cell? ⟨w.heap.size, 0, none⟩ = some (.slice A n c) := (by rw [hU, cell_old _ _ _ _ (by simp <;> omega), cell_old _ _ _ _ (by simp <;> omega), cell_old _ _ _ _ (by simp <;> omega), cell_old _ _ _ _ (by simp <;> omega), cell_old _ _ _ _ (by simp <;> omega), cell_new _ _ _ _ _ (by simp <;> omega)]; rfl)
  have b5 : U.cell? ⟨w.heap.size + 1, 0, none⟩ = some (.slice (some ⟨ab, ao, none⟩) m d) := (by rw [hU, cell_old _ _ _ _ (by simp <;> omega), cell_old _ _ _ _ (by simp <;> omega), cell_old _ _ _ _ (by simp <;> omega), cell_old _ _ _ _ (by simp <;> omega), cell_new _ _ _ _ _ (by simp <;> omega)]; rfl)
  have b6 : U.cell? ⟨w.heap.size + 2, 0, none⟩ = some (.int .i64 k) := (by rw [hU, cell_old _ _ _ _ (by simp <;> omega), cell_old _ _ _ _ (by simp <;> omega), cell_old _ _ _ _ (by simp <;> omega), cell_new _ _ _ _ _ (by simp <;> omega)]; rfl)
  have b7 : U.cell? ⟨w.heap.size + 3, 0, none⟩ = some (.int .i64 thr) := (by rw [hU, cell_old _ _ _ _ (by simp <;> omega), cell_old _ _ _ _ (by simp <;> omega), cell_new _ _ _ _ _ (by simp <;> omega)]; rfl)
  have b8 : U.cell? ⟨w.heap.size + 4, 0, none⟩ = some (.int .i64 0) := (by rw [hU, cell_old _ _ _ _ (by simp <;> omega), cell_new _ _ _ _ _ (by simp <;> omega)]; rfl)
  have b8f : U.frozen? ⟨w.heap.size + 4, 0, none⟩ = false := (by rw [hU, frozen_old _ _ _ _ (by simp <;> omega), frozen_new _ _ _ _ _ (by simp <;> omega)])
  have b9 : U.cell? ⟨w.heap.size + 5, 0, none⟩ = some (.slice (some ⟨ab, ao, none⟩) k d) := (by rw [hU, cell_new _ _ _ _ _ (by simp <;> omega)]; rfl)
  have HB := Lib.hid (show U.cell? ⟨w.heap.size, 0, none⟩ = some (.slice A n c) ∧ U.cell? ⟨w.heap.size + 1, 0, none⟩ = some (.slice (some ⟨ab, ao, none⟩) m d) ∧ U.cell? ⟨w.heap.size + 2, 0, none⟩ = some (.int .i64 k) ∧ U.cell? ⟨w.heap.size + 3, 0, none⟩ = some (.int .i64 thr) ∧ U.cell? ⟨w.heap.size + 4, 0, none⟩ = some (.int .i64 0) ∧ U.frozen? ⟨w.heap.size + 4, 0, none⟩ = false from ⟨b4, b5, b6, b7, b8, b8f⟩)
  have HZU := Lib.hid hzU
  have HBU := Lib.hid hbU
  have HCS := Lib.hid cs
  have hslU : Sl U (w.heap.size + 6) 48 Tk.cells (some ⟨ab, ao, none⟩) k (l.take k) := ⟨by rw [List.length_take]; have := HLL.out.len; omega, fun _ => by
    obtain ⟨ab', ao', e, h1, h2⟩ := (HLL.out.below hbU).at_ (by omega)
    exact ⟨ab', ao', e, by omega, fun i x hx j u hu => h2 i x (by rw [List.getElem?_take] at hx; split at hx; exact hx; cases hx) j u hu⟩⟩
  have HSU := Lib.hid hslU
  have g1 : decide (thr < 1) = false := by simpa using hth
  have g2 : decide ((k : Int) < 0) = false := by simp
  have hnd : (w.heap.size + 1 + 1 + 1 + 1 + 1 : Nat) = w.heap.size + 5 := by omega
  clear hU b4 b5 b6 b7 b8 b8f hslU cs hzU hbU
  gi_wp2
  refine wpIn_rangeFunc_ownH rfl (by omega) (gf := 21) (lb := #[.pointer (some ⟨w.heap.size + 5, 0, none⟩)]) rfl trivial (enters_of Try.func21 (by kernel_rfl) rfl)
    (back_stops 6 (w.heap.size + 6) (w.heap.size + 5) (by omega) (some ⟨ab, ao, none⟩) k d (l.take k) (by omega) (by omega) U (by rw [HZU.out]; omega) b9 HSU.out) belowK_t (belowK_b (by rw [HZU.out]; omega)) (Below.refl _ _) (fun _ => rfl)
    (fun pre W => (∀ x ∈ pre, cnd ts thr s.start x.2 = false) ∧ Below (w.heap.size + 6) U W)
    (fun e pre W => (e = .ret ∧ (∃ x q, pre = q ++ [x] ∧ (∀ y ∈ q, cnd ts thr s.start y.2 = false) ∧ cnd ts thr s.start x.2 = true ∧ W.cell? ⟨w.heap.size + 4, 0, none⟩ = some (.int .i64 x.1))) ∧ Below w.heap.size w W)
    (OwnFrom.and (ownFrom_pure _ _) (ownFrom_below (by rw [HZU.out]; omega) (by rw [HZU.out]; omega)))
    (fun e => OwnFrom.and (Own.from (fun s X Y row hs hg hr => by
      obtain ⟨h1, x, q, h2, h3, h4, h5⟩ := hs
      exact ⟨h1, x, q, h2, h3, h4, cell_kept h5 hg hr⟩) _) (ownFrom_below (Nat.le_refl _) (by rw [HZU.out]; omega)))
    ⟨by simp, Below.refl _ _⟩
    (fun x a' W => ∃ Bx, w.heap.size + 6 ≤ Bx ∧ W.heap[Bx]? = some (.cells x.2.cells.toArray 44 (0, 0)) ∧ a' = { tmps := #[.agg #[.slice A n c], .slice (some ⟨ab, ao, none⟩) m d, .int .i64 k, .int .i64 thr, .pointer (some ⟨w.heap.size, 0, none⟩), .pointer (some ⟨w.heap.size + 1, 0, none⟩), .pointer (some ⟨w.heap.size + 1 + 1, 0, none⟩), .pointer (some ⟨w.heap.size + 1 + 1 + 1, 0, none⟩), .pointer (some ⟨w.heap.size + 1 + 1 + 1 + 1, 0, none⟩), .int .i64 x.1, .pointer (some ⟨Bx, 0, none⟩), .int .i64 thr, .bool false, .bool false, .int .i64 k, .bool false, .bool false, .bool false, .int .i64 k, .slice (some ⟨ab, ao, none⟩) m d, .int .i64 m, .bool false, .bool false, .slice (some ⟨ab, ao, none⟩) m d, .int .i64 k, .slice (some ⟨ab, ao, none⟩) k d, .func (.func 21) #[] #[.pointer (some ⟨w.heap.size + 1 + 1 + 1 + 1 + 1, 0, none⟩)], .int .i64 x.1, .agg x.2.cells.toArray, undef, undef, undef, undef, undef, undef, undef, undef, undef, undef, undef, undef, undef, undef, undef, undef, undef, undef, undef, undef, undef, undef], defers := [] })
    (fun x a' _ X Y row hs hg hr => by
      obtain ⟨Bx, h1, h2, h3⟩ := hs
      refine ⟨Bx, h1, (hg.block Bx (Array.getElem?_eq_some_iff.1 h2).1 (fun e => ?_)).trans h2, h3⟩
      obtain ⟨_, o, ho, hc⟩ := hr Bx e.symm
      rw [h2] at ho
      injection ho with ho
      subst ho
      cases hc)
    ?assign ?body ?done ?stop
  case assign =>
    rintro lp pre x W K ⟨hno, hB⟩ hK
    have hpos := HZU.out
    unfold tkv
    gi_wp2_with (with_reducible refine wpListIn_store_tk rfl (.tmp 10) (.tmp 28) rfl x.2 (by simp) (by simp [Act.eval, Act.put]) (by simp [Act.eval, Act.put]) ?_)
    exact hK _ _ ((KeepsOthers.alloc _ _).from _) ((Below.refl _ W).alloc (by have := hB.size; omega) _) ⟨hno, hB.alloc (by have := hB.size; omega) _⟩ ⟨W.heap.size, by have := hB.size; omega, heap_new W _, rfl⟩
  case body =>
    rintro lp pre x a' W hl _ ⟨hno, hB⟩ ⟨Bx, hBx, bX, rfl⟩ hlt
    have hpos := HZU.out
    have hzW := hB.size
    have b4 := (belc hB (by omega)).trans HB.out.1
    have b5 := (belc hB (by omega)).trans HB.out.2.1
    have b6 := (belc hB (by omega)).trans HB.out.2.2.1
    have b7 := (belc hB (by omega)).trans HB.out.2.2.2.1
    have b8 := (belc hB (by omega)).trans HB.out.2.2.2.2.1
    have b8f := (belf hB (b := w.heap.size + 4) (o := 0) (by omega)).trans HB.out.2.2.2.2.2
    have hbw := HBU.out.trans (hB.mono (by omega))
    have cs := (belc hbw hlo).trans HCS.out
    have x0 := blk_cell bX x.2.c0
    have x42 := blk_cell bX x.2.c42
    have hBxl : Bx < W.heap.size := (Array.getElem?_eq_some_iff.1 bX).1
    have hsW := HSL.out.up (Below.drew hbw)
    have HX := Lib.hid hsW
    have HNO := Lib.hid hno
    have HBW := Lib.hid hbw
    have HBB := Lib.hid hB
    clear hsW hno hbw bX hB
    by_cases hst : x.2.status = 0
    · have hst' : (x.2.status == 0) = true := by simp [hst]
      rw [hst] at x42
      gi_wp2
      refine region_round (S := fun w' => w'.cell? ⟨w.heap.size, 0, none⟩ = some (.slice A n c) ∧ w'.cell? ⟨w.heap.size + 1, 0, none⟩ = some (.slice (some ⟨ab, ao, none⟩) m d) ∧ w'.cell? ⟨w.heap.size + 2, 0, none⟩ = some (.int .i64 k) ∧ w'.cell? ⟨w.heap.size + 3, 0, none⟩ = some (.int .i64 thr) ∧ w'.cell? ⟨ab, ao + k * 48, none⟩ = some (.int .i64 s.start) ∧ w'.cell? ⟨Bx, 0, none⟩ = some (.int .i64 x.2.start) ∧ w'.cell? ⟨Bx, 42, none⟩ = some (.int .i64 0)) (by kernel_rfl) (by kernel_rfl) (fun _ _ h => h) ⟨b4, b5, b6, b7, cs, x0, x42⟩ (fun hHeld => ?_)
      refine takeD 0 (some 29) ?_ rfl (by rfl) (by kernel_rfl) (by kernel_rfl) (by kernel_rfl) (fun _ _ _ h => h) (Or.inl ⟨by rfl, ?_⟩) (by assumption) ?_
      rotate_left
      · intro w' hSw
        try dsimp only at hSw
        go_simp
        first | done | with_reducible rfl
      try simp only [Act.put, List.setIfInBounds_toArray, List.set_cons_zero, List.set_cons_succ]
      refine takeD 1 (some 30) ?_ rfl (by rfl) (by kernel_rfl) (by kernel_rfl) (by kernel_rfl) (fun _ _ _ h => h) (Or.inl ⟨by rfl, ?_⟩) (by assumption) ?_
      rotate_left
      · intro w' hSw
        try dsimp only at hSw
        go_simp
        first | done | with_reducible rfl
      try simp only [Act.put, List.setIfInBounds_toArray, List.set_cons_zero, List.set_cons_succ]
      refine takeD 2 (some 31) ?_ rfl (by rfl) (by kernel_rfl) (by kernel_rfl) (by kernel_rfl) (fun _ _ _ h => h) (Or.inl ⟨by rfl, ?_⟩) (by assumption) ?_
      rotate_left
      · intro w' hSw
        try dsimp only at hSw
        go_simp
        first | done | with_reducible rfl
      try simp only [Act.put, List.setIfInBounds_toArray, List.set_cons_zero, List.set_cons_succ]
      refine takeD 3 (some 32) ?_ rfl (by rfl) (by kernel_rfl) (by kernel_rfl) (by kernel_rfl) (fun _ _ _ h => h) (Or.inl ⟨by rfl, ?_⟩) (by assumption) ?_
      rotate_left
      · intro w' hSw
        try dsimp only at hSw
        go_simp
        first | done | with_reducible rfl
      try simp only [Act.put, List.setIfInBounds_toArray, List.set_cons_zero, List.set_cons_succ]
      refine takeD 4 (some 33) undef rfl (by rfl) (by kernel_rfl) (by kernel_rfl) (by kernel_rfl) (fun _ _ _ h => h) (Or.inr ⟨by rfl, rfl⟩) (by assumption) ?_
      try simp only [Act.put, List.setIfInBounds_toArray, List.set_cons_zero, List.set_cons_succ]
      refine takeD 5 (some 34) undef rfl (by rfl) (by kernel_rfl) (by kernel_rfl) (by kernel_rfl) (fun _ _ _ h => h) (Or.inr ⟨by rfl, rfl⟩) (by assumption) ?_
      try simp only [Act.put, List.setIfInBounds_toArray, List.set_cons_zero, List.set_cons_succ]
      refine takeD 6 (some 35) undef rfl (by rfl) (by kernel_rfl) (by kernel_rfl) (by kernel_rfl) (fun _ _ _ h => h) (Or.inr ⟨by rfl, rfl⟩) (by assumption) ?_
      try simp only [Act.put, List.setIfInBounds_toArray, List.set_cons_zero, List.set_cons_succ]
      refine takeD 7 (some 36) ?_ rfl (by rfl) (by kernel_rfl) (by kernel_rfl) (by kernel_rfl) (fun _ _ _ h => h) (Or.inl ⟨by rfl, ?_⟩) (by assumption) ?_
      rotate_left
      · intro w' hSw
        try dsimp only at hSw
        go_simp
        first | done | with_reducible rfl
      try simp only [Act.put, List.setIfInBounds_toArray, List.set_cons_zero, List.set_cons_succ]
      refine takeD 8 (some 37) ?_ rfl (by rfl) (by kernel_rfl) (by kernel_rfl) (by kernel_rfl) (fun _ _ _ h => h) (Or.inl ⟨by rfl, ?_⟩) (by assumption) ?_
      rotate_left
      · intro w' hSw
        try dsimp only at hSw
        go_simp
        first | done | with_reducible rfl
      try simp only [Act.put, List.setIfInBounds_toArray, List.set_cons_zero, List.set_cons_succ]
      refine takeD 9 (some 38) ?_ rfl (by rfl) (by kernel_rfl) (by kernel_rfl) (by kernel_rfl) (fun _ _ _ h => h) (Or.inl ⟨by rfl, ?_⟩) (by assumption) ?_
      rotate_left
      · intro w' hSw
        try dsimp only at hSw
        go_simp
        first | done | with_reducible rfl
      try simp only [Act.put, List.setIfInBounds_toArray, List.set_cons_zero, List.set_cons_succ]
      refine takeD 10 (some 39) ?_ rfl (by rfl) (by kernel_rfl) (by kernel_rfl) (by kernel_rfl) (fun _ _ _ h => h) (Or.inl ⟨by rfl, ?_⟩) (by assumption) ?_
      rotate_left
      · intro w' hSw
        try dsimp only at hSw
        go_simp
        first | done | with_reducible rfl
      try simp only [Act.put, List.setIfInBounds_toArray, List.set_cons_zero, List.set_cons_succ]
      refine takeD 11 (some 40) ?_ rfl (by rfl) (by kernel_rfl) (by kernel_rfl) (by kernel_rfl) (fun _ _ _ h => h) (Or.inl ⟨by rfl, ?_⟩) (by assumption) ?_
      rotate_left
      · intro w' hSw
        try dsimp only at hSw
        go_simp
        first | done | with_reducible rfl
      try simp only [Act.put, List.setIfInBounds_toArray, List.set_cons_zero, List.set_cons_succ]
      refine takeD 12 (some 41) ?_ rfl (by rfl) (by kernel_rfl) (by kernel_rfl) (by kernel_rfl) (fun _ _ _ h => h) (Or.inl ⟨by rfl, ?_⟩) (by assumption) ?_
      rotate_left
      · intro w' hSw
        try dsimp only at hSw
        go_simp
        first | done | with_reducible rfl
      try simp only [Act.put, List.setIfInBounds_toArray, List.set_cons_zero, List.set_cons_succ]
      refine takeD 13 (some 42) ?_ rfl (by rfl) (by kernel_rfl) (by kernel_rfl) (by kernel_rfl) (fun _ _ _ h => h) (Or.inl ⟨by rfl, ?_⟩) (by assumption) ?_
      rotate_left
      · intro w' hSw
        try dsimp only at hSw
        go_simp
        first | done | with_reducible rfl
      try simp only [Act.put, List.setIfInBounds_toArray, List.set_cons_zero, List.set_cons_succ]
      refine takeD 14 (some 43) ?_ rfl (by rfl) (by kernel_rfl) (by kernel_rfl) (by kernel_rfl) (fun _ _ _ h => h) (Or.inl ⟨by rfl, ?_⟩) (by assumption) ?_
      rotate_left
      · intro w' hSw
        try dsimp only at hSw
        go_simp
        first | done | with_reducible rfl
      try simp only [Act.put, List.setIfInBounds_toArray, List.set_cons_zero, List.set_cons_succ]
      refine takeD 15 (some 44) ?_ rfl (by rfl) (by kernel_rfl) (by kernel_rfl) (by kernel_rfl) (fun _ _ _ h => h) (Or.inl ⟨by rfl, ?_⟩) (by assumption) ?_
      rotate_left
      · intro w' hSw
        try dsimp only at hSw
        go_simp
        first | done | with_reducible rfl
      try simp only [Act.put, List.setIfInBounds_toArray, List.set_cons_zero, List.set_cons_succ]
      refine takeD 16 (some 45) ?_ rfl (by rfl) (by kernel_rfl) (by kernel_rfl) (by kernel_rfl) (fun _ _ _ h => h) (Or.inl ⟨by rfl, ?_⟩) (by assumption) ?_
      rotate_left
      · intro w' hSw
        try dsimp only at hSw
        go_simp
        first | done | with_reducible rfl
      try simp only [Act.put, List.setIfInBounds_toArray, List.set_cons_zero, List.set_cons_succ]
      refine takeD 18 (some 47) ?_ rfl (by rfl) (by kernel_rfl) (by kernel_rfl) (by kernel_rfl) (fun _ _ _ h => h) (Or.inl ⟨by rfl, ?_⟩) (by assumption) ?_
      rotate_left
      · intro w' hSw
        try dsimp only at hSw
        go_simp
        first | done | with_reducible rfl
      try simp only [Act.put, List.setIfInBounds_toArray, List.set_cons_zero, List.set_cons_succ]
      refine wpAnyH_ready (rs := [17]) (by kernel_rfl) (by simp) ?_
      refine AllReadyH.cons rfl (fun K hK => ?_) AllReadyH.nil
      go_simp
      refine (count_any A n c ts x.2.start s.start W.drew HX.out HS.out (by omega)).mono ?_
      rintro e w1 ⟨rfl, hb1⟩
      have hb1 : Below W.heap.size W w1 := (Below.drew (Below.refl _ _)).trans hb1
      refine hK.out _ _ ⟨(belc hb1 (by omega)).trans b4, (belc hb1 (by omega)).trans b5, (belc hb1 (by omega)).trans b6, (belc hb1 (by omega)).trans b7, (belc hb1 (by omega)).trans cs, (belc hb1 hBxl).trans x0, (belc hb1 hBxl).trans x42⟩ (fun hHeld2 => ?_)
      clear hK K
      try simp only [Act.put, List.setIfInBounds_toArray, List.set_cons_zero, List.set_cons_succ]
      refine takeD 19 (some 48) ?_ rfl (by rfl) (by kernel_rfl) (by kernel_rfl) (by kernel_rfl) (fun _ _ _ h => h) (Or.inl ⟨by rfl, ?_⟩) (by assumption) ?_
      rotate_left
      · intro w' hSw
        try dsimp only at hSw
        go_simp
        first | done | with_reducible rfl
      try simp only [Act.put, List.setIfInBounds_toArray, List.set_cons_zero, List.set_cons_succ]
      refine takeD 20 (some 49) ?_ rfl (by rfl) (by kernel_rfl) (by kernel_rfl) (by kernel_rfl) (fun _ _ _ h => h) (Or.inl ⟨by rfl, ?_⟩) (by assumption) ?_
      rotate_left
      · intro w' hSw
        try dsimp only at hSw
        go_simp
        first | done | with_reducible rfl
      try simp only [Act.put, List.setIfInBounds_toArray, List.set_cons_zero, List.set_cons_succ]
      refine wpAnyH_done (by kernel_rfl) ?_ _
      by_cases hge : thr ≤ countP ts x.2.start s.start
      · have hgg := Lib.hid hge
        have c8 := (belc hb1 (by omega)).trans b8
        have c8f := (belf hb1 (b := w.heap.size + 4) (o := 0) (by omega)).trans b8f
        have HC := Lib.hid (show cnd ts thr s.start x.2 = true from by unfold cnd; simp [hst, hge])
        gi_wp2
        exact ⟨(keeps_of_below hb1).trans (keeps_set (by omega) _), ⟨rfl, x, pre, rfl, HNO.out, HC.out, World.cell?_setCell_same _ _ _ c8⟩, (HBW.out.trans (hb1.mono (by omega))).setCell (by show _ ≤ _; simp <;> omega) _⟩
      · have hlt2 : countP ts x.2.start s.start < thr := by omega
        have HC := Lib.hid (show cnd ts thr s.start x.2 = false from by unfold cnd; simp [hst, hge])
        gi_wp2
        exact ⟨keeps_of_below hb1, hb1.mono (by omega), (by first | exact fun y hy => mem_snoc (p := fun y : Nat × Tk => cnd ts thr s.start y.2 = false) HNO.out HC.out y hy | exact fun a b hy => mem_snoc (p := fun y : Nat × Tk => cnd ts thr s.start y.2 = false) HNO.out HC.out (a, b) hy), HBB.out.trans (hb1.mono (by omega))⟩
    · by_cases hst1 : x.2.status = 1
      · have hst' : (x.2.status == 1) = true := by simp [hst1]
        rw [hst1] at x42
        gi_wp2
        refine region_round (S := fun w' => w'.cell? ⟨w.heap.size, 0, none⟩ = some (.slice A n c) ∧ w'.cell? ⟨w.heap.size + 1, 0, none⟩ = some (.slice (some ⟨ab, ao, none⟩) m d) ∧ w'.cell? ⟨w.heap.size + 2, 0, none⟩ = some (.int .i64 k) ∧ w'.cell? ⟨w.heap.size + 3, 0, none⟩ = some (.int .i64 thr) ∧ w'.cell? ⟨ab, ao + k * 48, none⟩ = some (.int .i64 s.start) ∧ w'.cell? ⟨Bx, 0, none⟩ = some (.int .i64 x.2.start) ∧ w'.cell? ⟨Bx, 42, none⟩ = some (.int .i64 1)) (by kernel_rfl) (by kernel_rfl) (fun _ _ h => h) ⟨b4, b5, b6, b7, cs, x0, x42⟩ (fun hHeld => ?_)
        refine takeD 0 (some 29) ?_ rfl (by rfl) (by kernel_rfl) (by kernel_rfl) (by kernel_rfl) (fun _ _ _ h => h) (Or.inl ⟨by rfl, ?_⟩) (by assumption) ?_
        rotate_left
        · intro w' hSw
          try dsimp only at hSw
          go_simp
          first | done | with_reducible rfl
        try simp only [Act.put, List.setIfInBounds_toArray, List.set_cons_zero, List.set_cons_succ]
        refine takeD 1 (some 30) ?_ rfl (by rfl) (by kernel_rfl) (by kernel_rfl) (by kernel_rfl) (fun _ _ _ h => h) (Or.inl ⟨by rfl, ?_⟩) (by assumption) ?_
        rotate_left
        · intro w' hSw
          try dsimp only at hSw
          go_simp
          first | done | with_reducible rfl
        try simp only [Act.put, List.setIfInBounds_toArray, List.set_cons_zero, List.set_cons_succ]
        refine takeD 2 (some 31) ?_ rfl (by rfl) (by kernel_rfl) (by kernel_rfl) (by kernel_rfl) (fun _ _ _ h => h) (Or.inl ⟨by rfl, ?_⟩) (by assumption) ?_
        rotate_left
        · intro w' hSw
          try dsimp only at hSw
          go_simp
          first | done | with_reducible rfl
        try simp only [Act.put, List.setIfInBounds_toArray, List.set_cons_zero, List.set_cons_succ]
        refine takeD 3 (some 32) ?_ rfl (by rfl) (by kernel_rfl) (by kernel_rfl) (by kernel_rfl) (fun _ _ _ h => h) (Or.inl ⟨by rfl, ?_⟩) (by assumption) ?_
        rotate_left
        · intro w' hSw
          try dsimp only at hSw
          go_simp
          first | done | with_reducible rfl
        try simp only [Act.put, List.setIfInBounds_toArray, List.set_cons_zero, List.set_cons_succ]
        refine takeD 4 (some 33) ?_ rfl (by rfl) (by kernel_rfl) (by kernel_rfl) (by kernel_rfl) (fun _ _ _ h => h) (Or.inl ⟨by rfl, ?_⟩) (by assumption) ?_
        rotate_left
        · intro w' hSw
          try dsimp only at hSw
          go_simp
          first | done | with_reducible rfl
        try simp only [Act.put, List.setIfInBounds_toArray, List.set_cons_zero, List.set_cons_succ]
        refine takeD 5 (some 34) ?_ rfl (by rfl) (by kernel_rfl) (by kernel_rfl) (by kernel_rfl) (fun _ _ _ h => h) (Or.inl ⟨by rfl, ?_⟩) (by assumption) ?_
        rotate_left
        · intro w' hSw
          try dsimp only at hSw
          go_simp
          first | done | with_reducible rfl
        try simp only [Act.put, List.setIfInBounds_toArray, List.set_cons_zero, List.set_cons_succ]
        refine takeD 6 (some 35) ?_ rfl (by rfl) (by kernel_rfl) (by kernel_rfl) (by kernel_rfl) (fun _ _ _ h => h) (Or.inl ⟨by rfl, ?_⟩) (by assumption) ?_
        rotate_left
        · intro w' hSw
          try dsimp only at hSw
          go_simp
          first | done | with_reducible rfl
        try simp only [Act.put, List.setIfInBounds_toArray, List.set_cons_zero, List.set_cons_succ]
        refine takeD 7 (some 36) ?_ rfl (by rfl) (by kernel_rfl) (by kernel_rfl) (by kernel_rfl) (fun _ _ _ h => h) (Or.inl ⟨by rfl, ?_⟩) (by assumption) ?_
        rotate_left
        · intro w' hSw
          try dsimp only at hSw
          go_simp
          first | done | with_reducible rfl
        try simp only [Act.put, List.setIfInBounds_toArray, List.set_cons_zero, List.set_cons_succ]
        refine takeD 8 (some 37) ?_ rfl (by rfl) (by kernel_rfl) (by kernel_rfl) (by kernel_rfl) (fun _ _ _ h => h) (Or.inl ⟨by rfl, ?_⟩) (by assumption) ?_
        rotate_left
        · intro w' hSw
          try dsimp only at hSw
          go_simp
          first | done | with_reducible rfl
        try simp only [Act.put, List.setIfInBounds_toArray, List.set_cons_zero, List.set_cons_succ]
        refine takeD 9 (some 38) ?_ rfl (by rfl) (by kernel_rfl) (by kernel_rfl) (by kernel_rfl) (fun _ _ _ h => h) (Or.inl ⟨by rfl, ?_⟩) (by assumption) ?_
        rotate_left
        · intro w' hSw
          try dsimp only at hSw
          go_simp
          first | done | with_reducible rfl
        try simp only [Act.put, List.setIfInBounds_toArray, List.set_cons_zero, List.set_cons_succ]
        refine takeD 10 (some 39) ?_ rfl (by rfl) (by kernel_rfl) (by kernel_rfl) (by kernel_rfl) (fun _ _ _ h => h) (Or.inl ⟨by rfl, ?_⟩) (by assumption) ?_
        rotate_left
        · intro w' hSw
          try dsimp only at hSw
          go_simp
          first | done | with_reducible rfl
        try simp only [Act.put, List.setIfInBounds_toArray, List.set_cons_zero, List.set_cons_succ]
        refine takeD 11 (some 40) ?_ rfl (by rfl) (by kernel_rfl) (by kernel_rfl) (by kernel_rfl) (fun _ _ _ h => h) (Or.inl ⟨by rfl, ?_⟩) (by assumption) ?_
        rotate_left
        · intro w' hSw
          try dsimp only at hSw
          go_simp
          first | done | with_reducible rfl
        try simp only [Act.put, List.setIfInBounds_toArray, List.set_cons_zero, List.set_cons_succ]
        refine takeD 12 (some 41) ?_ rfl (by rfl) (by kernel_rfl) (by kernel_rfl) (by kernel_rfl) (fun _ _ _ h => h) (Or.inl ⟨by rfl, ?_⟩) (by assumption) ?_
        rotate_left
        · intro w' hSw
          try dsimp only at hSw
          go_simp
          first | done | with_reducible rfl
        try simp only [Act.put, List.setIfInBounds_toArray, List.set_cons_zero, List.set_cons_succ]
        refine takeD 13 (some 42) ?_ rfl (by rfl) (by kernel_rfl) (by kernel_rfl) (by kernel_rfl) (fun _ _ _ h => h) (Or.inl ⟨by rfl, ?_⟩) (by assumption) ?_
        rotate_left
        · intro w' hSw
          try dsimp only at hSw
          go_simp
          first | done | with_reducible rfl
        try simp only [Act.put, List.setIfInBounds_toArray, List.set_cons_zero, List.set_cons_succ]
        refine takeD 14 (some 43) ?_ rfl (by rfl) (by kernel_rfl) (by kernel_rfl) (by kernel_rfl) (fun _ _ _ h => h) (Or.inl ⟨by rfl, ?_⟩) (by assumption) ?_
        rotate_left
        · intro w' hSw
          try dsimp only at hSw
          go_simp
          first | done | with_reducible rfl
        try simp only [Act.put, List.setIfInBounds_toArray, List.set_cons_zero, List.set_cons_succ]
        refine takeD 15 (some 44) ?_ rfl (by rfl) (by kernel_rfl) (by kernel_rfl) (by kernel_rfl) (fun _ _ _ h => h) (Or.inl ⟨by rfl, ?_⟩) (by assumption) ?_
        rotate_left
        · intro w' hSw
          try dsimp only at hSw
          go_simp
          first | done | with_reducible rfl
        try simp only [Act.put, List.setIfInBounds_toArray, List.set_cons_zero, List.set_cons_succ]
        refine takeD 16 (some 45) ?_ rfl (by rfl) (by kernel_rfl) (by kernel_rfl) (by kernel_rfl) (fun _ _ _ h => h) (Or.inl ⟨by rfl, ?_⟩) (by assumption) ?_
        rotate_left
        · intro w' hSw
          try dsimp only at hSw
          go_simp
          first | done | with_reducible rfl
        try simp only [Act.put, List.setIfInBounds_toArray, List.set_cons_zero, List.set_cons_succ]
        refine takeD 18 (some 47) ?_ rfl (by rfl) (by kernel_rfl) (by kernel_rfl) (by kernel_rfl) (fun _ _ _ h => h) (Or.inl ⟨by rfl, ?_⟩) (by assumption) ?_
        rotate_left
        · intro w' hSw
          try dsimp only at hSw
          go_simp
          first | done | with_reducible rfl
        try simp only [Act.put, List.setIfInBounds_toArray, List.set_cons_zero, List.set_cons_succ]
        refine wpAnyH_ready (rs := [17]) (by kernel_rfl) (by simp) ?_
        refine AllReadyH.cons rfl (fun K hK => ?_) AllReadyH.nil
        go_simp
        refine (count_any A n c ts x.2.start s.start W.drew HX.out HS.out (by omega)).mono ?_
        rintro e w1 ⟨rfl, hb1⟩
        have hb1 : Below W.heap.size W w1 := (Below.drew (Below.refl _ _)).trans hb1
        refine hK.out _ _ ⟨(belc hb1 (by omega)).trans b4, (belc hb1 (by omega)).trans b5, (belc hb1 (by omega)).trans b6, (belc hb1 (by omega)).trans b7, (belc hb1 (by omega)).trans cs, (belc hb1 hBxl).trans x0, (belc hb1 hBxl).trans x42⟩ (fun hHeld2 => ?_)
        clear hK K
        try simp only [Act.put, List.setIfInBounds_toArray, List.set_cons_zero, List.set_cons_succ]
        refine takeD 19 (some 48) ?_ rfl (by rfl) (by kernel_rfl) (by kernel_rfl) (by kernel_rfl) (fun _ _ _ h => h) (Or.inl ⟨by rfl, ?_⟩) (by assumption) ?_
        rotate_left
        · intro w' hSw
          try dsimp only at hSw
          go_simp
          first | done | with_reducible rfl
        try simp only [Act.put, List.setIfInBounds_toArray, List.set_cons_zero, List.set_cons_succ]
        refine takeD 20 (some 49) ?_ rfl (by rfl) (by kernel_rfl) (by kernel_rfl) (by kernel_rfl) (fun _ _ _ h => h) (Or.inl ⟨by rfl, ?_⟩) (by assumption) ?_
        rotate_left
        · intro w' hSw
          try dsimp only at hSw
          go_simp
          first | done | with_reducible rfl
        try simp only [Act.put, List.setIfInBounds_toArray, List.set_cons_zero, List.set_cons_succ]
        refine wpAnyH_done (by kernel_rfl) ?_ _
        by_cases hge : thr ≤ countP ts x.2.start s.start
        · have hgg := Lib.hid hge
          have c8 := (belc hb1 (by omega)).trans b8
          have c8f := (belf hb1 (b := w.heap.size + 4) (o := 0) (by omega)).trans b8f
          have HC := Lib.hid (show cnd ts thr s.start x.2 = true from by unfold cnd; simp [hst1, hge])
          gi_wp2
          exact ⟨(keeps_of_below hb1).trans (keeps_set (by omega) _), ⟨rfl, x, pre, rfl, HNO.out, HC.out, World.cell?_setCell_same _ _ _ c8⟩, (HBW.out.trans (hb1.mono (by omega))).setCell (by show _ ≤ _; simp <;> omega) _⟩
        · have hlt2 : countP ts x.2.start s.start < thr := by omega
          have HC := Lib.hid (show cnd ts thr s.start x.2 = false from by unfold cnd; simp [hst1, hge])
          gi_wp2
          exact ⟨keeps_of_below hb1, hb1.mono (by omega), (by first | exact fun y hy => mem_snoc (p := fun y : Nat × Tk => cnd ts thr s.start y.2 = false) HNO.out HC.out y hy | exact fun a b hy => mem_snoc (p := fun y : Nat × Tk => cnd ts thr s.start y.2 = false) HNO.out HC.out (a, b) hy), HBB.out.trans (hb1.mono (by omega))⟩
      · have hst' : (x.2.status == 0) = false := by simp [hst]
        have hst1' : (x.2.status == 1) = false := by simp [hst1]
        gi_wp2
        refine region_round (S := fun w' => w'.cell? ⟨w.heap.size, 0, none⟩ = some (.slice A n c) ∧ w'.cell? ⟨w.heap.size + 1, 0, none⟩ = some (.slice (some ⟨ab, ao, none⟩) m d) ∧ w'.cell? ⟨w.heap.size + 2, 0, none⟩ = some (.int .i64 k) ∧ w'.cell? ⟨w.heap.size + 3, 0, none⟩ = some (.int .i64 thr) ∧ w'.cell? ⟨ab, ao + k * 48, none⟩ = some (.int .i64 s.start) ∧ w'.cell? ⟨Bx, 0, none⟩ = some (.int .i64 x.2.start) ∧ w'.cell? ⟨Bx, 42, none⟩ = some (.int .i64 x.2.status)) (by kernel_rfl) (by kernel_rfl) (fun _ _ h => h) ⟨b4, b5, b6, b7, cs, x0, x42⟩ (fun hHeld => ?_)
        refine takeD 0 (some 29) ?_ rfl (by rfl) (by kernel_rfl) (by kernel_rfl) (by kernel_rfl) (fun _ _ _ h => h) (Or.inl ⟨by rfl, ?_⟩) (by assumption) ?_
        rotate_left
        · intro w' hSw
          try dsimp only at hSw
          go_simp
          first | done | with_reducible rfl
        try simp only [Act.put, List.setIfInBounds_toArray, List.set_cons_zero, List.set_cons_succ]
        refine takeD 1 (some 30) ?_ rfl (by rfl) (by kernel_rfl) (by kernel_rfl) (by kernel_rfl) (fun _ _ _ h => h) (Or.inl ⟨by rfl, ?_⟩) (by assumption) ?_
        rotate_left
        · intro w' hSw
          try dsimp only at hSw
          go_simp
          first | done | with_reducible rfl
        try simp only [Act.put, List.setIfInBounds_toArray, List.set_cons_zero, List.set_cons_succ]
        refine takeD 2 (some 31) ?_ rfl (by rfl) (by kernel_rfl) (by kernel_rfl) (by kernel_rfl) (fun _ _ _ h => h) (Or.inl ⟨by rfl, ?_⟩) (by assumption) ?_
        rotate_left
        · intro w' hSw
          try dsimp only at hSw
          go_simp
          first | done | with_reducible rfl
        try simp only [Act.put, List.setIfInBounds_toArray, List.set_cons_zero, List.set_cons_succ]
        refine takeD 3 (some 32) ?_ rfl (by rfl) (by kernel_rfl) (by kernel_rfl) (by kernel_rfl) (fun _ _ _ h => h) (Or.inl ⟨by rfl, ?_⟩) (by assumption) ?_
        rotate_left
        · intro w' hSw
          try dsimp only at hSw
          go_simp
          first | done | with_reducible rfl
        try simp only [Act.put, List.setIfInBounds_toArray, List.set_cons_zero, List.set_cons_succ]
        refine takeD 4 (some 33) ?_ rfl (by rfl) (by kernel_rfl) (by kernel_rfl) (by kernel_rfl) (fun _ _ _ h => h) (Or.inl ⟨by rfl, ?_⟩) (by assumption) ?_
        rotate_left
        · intro w' hSw
          try dsimp only at hSw
          go_simp
          first | done | with_reducible rfl
        try simp only [Act.put, List.setIfInBounds_toArray, List.set_cons_zero, List.set_cons_succ]
        refine takeD 5 (some 34) ?_ rfl (by rfl) (by kernel_rfl) (by kernel_rfl) (by kernel_rfl) (fun _ _ _ h => h) (Or.inl ⟨by rfl, ?_⟩) (by assumption) ?_
        rotate_left
        · intro w' hSw
          try dsimp only at hSw
          go_simp
          first | done | with_reducible rfl
        try simp only [Act.put, List.setIfInBounds_toArray, List.set_cons_zero, List.set_cons_succ]
        refine takeD 6 (some 35) ?_ rfl (by rfl) (by kernel_rfl) (by kernel_rfl) (by kernel_rfl) (fun _ _ _ h => h) (Or.inl ⟨by rfl, ?_⟩) (by assumption) ?_
        rotate_left
        · intro w' hSw
          try dsimp only at hSw
          go_simp
          first | done | with_reducible rfl
        try simp only [Act.put, List.setIfInBounds_toArray, List.set_cons_zero, List.set_cons_succ]
        refine takeD 7 (some 36) ?_ rfl (by rfl) (by kernel_rfl) (by kernel_rfl) (by kernel_rfl) (fun _ _ _ h => h) (Or.inl ⟨by rfl, ?_⟩) (by assumption) ?_
        rotate_left
        · intro w' hSw
          try dsimp only at hSw
          go_simp
          first | done | with_reducible rfl
        try simp only [Act.put, List.setIfInBounds_toArray, List.set_cons_zero, List.set_cons_succ]
        refine takeD 8 (some 37) ?_ rfl (by rfl) (by kernel_rfl) (by kernel_rfl) (by kernel_rfl) (fun _ _ _ h => h) (Or.inl ⟨by rfl, ?_⟩) (by assumption) ?_
        rotate_left
        · intro w' hSw
          try dsimp only at hSw
          go_simp
          first | done | with_reducible rfl
        try simp only [Act.put, List.setIfInBounds_toArray, List.set_cons_zero, List.set_cons_succ]
        refine takeD 9 (some 38) undef rfl (by rfl) (by kernel_rfl) (by kernel_rfl) (by kernel_rfl) (fun _ _ _ h => h) (Or.inr ⟨by rfl, rfl⟩) (by assumption) ?_
        try simp only [Act.put, List.setIfInBounds_toArray, List.set_cons_zero, List.set_cons_succ]
        refine takeD 10 (some 39) undef rfl (by rfl) (by kernel_rfl) (by kernel_rfl) (by kernel_rfl) (fun _ _ _ h => h) (Or.inr ⟨by rfl, rfl⟩) (by assumption) ?_
        try simp only [Act.put, List.setIfInBounds_toArray, List.set_cons_zero, List.set_cons_succ]
        refine takeD 11 (some 40) undef rfl (by rfl) (by kernel_rfl) (by kernel_rfl) (by kernel_rfl) (fun _ _ _ h => h) (Or.inr ⟨by rfl, rfl⟩) (by assumption) ?_
        try simp only [Act.put, List.setIfInBounds_toArray, List.set_cons_zero, List.set_cons_succ]
        refine takeD 12 (some 41) undef rfl (by rfl) (by kernel_rfl) (by kernel_rfl) (by kernel_rfl) (fun _ _ _ h => h) (Or.inr ⟨by rfl, rfl⟩) (by assumption) ?_
        try simp only [Act.put, List.setIfInBounds_toArray, List.set_cons_zero, List.set_cons_succ]
        refine takeD 13 (some 42) undef rfl (by rfl) (by kernel_rfl) (by kernel_rfl) (by kernel_rfl) (fun _ _ _ h => h) (Or.inr ⟨by rfl, rfl⟩) (by assumption) ?_
        try simp only [Act.put, List.setIfInBounds_toArray, List.set_cons_zero, List.set_cons_succ]
        refine takeD 14 (some 43) undef rfl (by rfl) (by kernel_rfl) (by kernel_rfl) (by kernel_rfl) (fun _ _ _ h => h) (Or.inr ⟨by rfl, rfl⟩) (by assumption) ?_
        try simp only [Act.put, List.setIfInBounds_toArray, List.set_cons_zero, List.set_cons_succ]
        refine takeD 15 (some 44) undef rfl (by rfl) (by kernel_rfl) (by kernel_rfl) (by kernel_rfl) (fun _ _ _ h => h) (Or.inr ⟨by rfl, rfl⟩) (by assumption) ?_
        try simp only [Act.put, List.setIfInBounds_toArray, List.set_cons_zero, List.set_cons_succ]
        refine takeD 16 (some 45) undef rfl (by rfl) (by kernel_rfl) (by kernel_rfl) (by kernel_rfl) (fun _ _ _ h => h) (Or.inr ⟨by rfl, rfl⟩) (by assumption) ?_
        try simp only [Act.put, List.setIfInBounds_toArray, List.set_cons_zero, List.set_cons_succ]
        refine takeD 17 (some 46) undef rfl (by rfl) (by kernel_rfl) (by kernel_rfl) (by kernel_rfl) (fun _ _ _ h => h) (Or.inr ⟨by rfl, rfl⟩) (by assumption) ?_
        try simp only [Act.put, List.setIfInBounds_toArray, List.set_cons_zero, List.set_cons_succ]
        refine takeD 18 (some 47) undef rfl (by rfl) (by kernel_rfl) (by kernel_rfl) (by kernel_rfl) (fun _ _ _ h => h) (Or.inr ⟨by rfl, rfl⟩) (by assumption) ?_
        try simp only [Act.put, List.setIfInBounds_toArray, List.set_cons_zero, List.set_cons_succ]
        refine takeD 19 (some 48) undef rfl (by rfl) (by kernel_rfl) (by kernel_rfl) (by kernel_rfl) (fun _ _ _ h => h) (Or.inr ⟨by rfl, rfl⟩) (by assumption) ?_
        try simp only [Act.put, List.setIfInBounds_toArray, List.set_cons_zero, List.set_cons_succ]
        refine takeD 20 (some 49) ?_ rfl (by rfl) (by kernel_rfl) (by kernel_rfl) (by kernel_rfl) (fun _ _ _ h => h) (Or.inl ⟨by rfl, ?_⟩) (by assumption) ?_
        rotate_left
        · intro w' hSw
          try dsimp only at hSw
          go_simp
          first | done | with_reducible rfl
        try simp only [Act.put, List.setIfInBounds_toArray, List.set_cons_zero, List.set_cons_succ]
        refine wpAnyH_done (by kernel_rfl) ?_ _
        have HC := Lib.hid (show cnd ts thr s.start x.2 = false from by unfold cnd; simp [hst, hst1])
        gi_wp2
        exact ⟨keeps_of_below (Below.drew (Below.refl _ _)), Below.drew (Below.refl _ _), (by first | exact fun y hy => mem_snoc (p := fun y : Nat × Tk => cnd ts thr s.start y.2 = false) HNO.out HC.out y hy | exact fun a b hy => mem_snoc (p := fun y : Nat × Tk => cnd ts thr s.start y.2 = false) HNO.out HC.out (a, b) hy), Below.drew HBB.out⟩
  case done =>
    rintro D ys W hD rfl ⟨hno, hB⟩ hK
    have hpos := HZU.out
    have hzW := hB.size
    have b8 := (belc hB (by omega)).trans HB.out.2.2.2.2.1
    have b8f := (belf hB (b := w.heap.size + 4) (o := 0) (by omega)).trans HB.out.2.2.2.2.2
    have HW := Lib.hid (show waitsP ts l k thr s.start = -1 from by
      unfold waitsP
      rw [find_none (fun x hx => hno x (by rw [rvTo_take l k k (Nat.le_refl _)]; exact hx))])
    have HB' := Lib.hid hB
    have HK := Lib.hid hK
    clear hno hB hK
    gi_wp2
    have hK2 : (W.setCell ⟨w.heap.size + 4, 0, none⟩ (.int .i64 (-1))).heap[D]? = some (.deferred (some [])) := (Below.heap_setCell _ _ _ D (by show D ≠ w.heap.size + 4; omega)).trans HK.out
    have hB2 : Below w.heap.size w (W.setCell ⟨w.heap.size + 4, 0, none⟩ (.int .i64 (-1))) := (HBU.out.trans (HB'.out.mono (by omega))).setCell (by show _ ≤ w.heap.size + 4; omega) _
    have hc : ((W.setCell ⟨w.heap.size + 4, 0, none⟩ (.int .i64 (-1))).putObj D (.deferred none)).cell? ⟨w.heap.size + 4, 0, none⟩ = some (.int .i64 (-1)) := (World.cell?_of_block (World.putObj_heap_other (by show w.heap.size + 4 ≠ D; omega))).trans (World.cell?_setCell_same _ _ _ b8)
    refine ⟨by simp, .inl ⟨_, _, rfl, run_takeDeferred hK2, .int .i64 (-1), ?_, ?_⟩⟩
    · simp [results, Try.results11, go_sem, hc]
    · exact ⟨by rw [HW.out], hB2.trans (belowK_b (w := w) (Nat.le_refl _) _ D _ _ (by omega) hK2 rfl rfl)⟩
  case stop =>
    rintro D e pre W hD hpre ⟨⟨rfl, x, q, rfl, hq, hx, hc⟩, hB⟩ hK
    have HW := Lib.hid (show waitsP ts l k thr s.start = x.1 from by
      obtain ⟨r, hr⟩ := hpre
      unfold waitsP
      rw [← rvTo_take l k k (Nat.le_refl _), ← hr, List.append_assoc, List.singleton_append, find_at (p := fun y : Nat × Tk => cnd ts thr s.start y.2) hx hq])
    have HK := Lib.hid hK
    have HB' := Lib.hid hB
    have hpos := HZU.out
    clear hq hx hpre hK hB
    gi_wp2
    have hc : (W.putObj D (.deferred none)).cell? ⟨w.heap.size + 4, 0, none⟩ = some (.int .i64 x.1) := (World.cell?_of_block (World.putObj_heap_other (by show w.heap.size + 4 ≠ D; omega))).trans hc
    refine ⟨by simp, .inl ⟨_, _, rfl, run_takeDeferred HK.out, .int .i64 x.1, ?_, ?_⟩⟩
    · simp [results, Try.results11, go_sem, hc]
    · exact ⟨by rw [HW.out], HB'.out.trans (belowK_b (w := w) (Nat.le_refl _) W D _ _ (by omega) HK.out rfl rfl)⟩
end Go.Proofs.Yteeglmlmconbmaa
