/- The chain of the sanity check. -/
import Derived.Test.YtbmembmiejmoaaaDoorK
import Derived.RangeFuncBox
import Derived.Maps.AppendAt
namespace Go.Proofs.YtbmembmiejmoaaaDoor
open Go.RowKit Go.Shelf
attribute [local go_sem] Oper.semAt_some

theorem infoI : (Tryd.prog.info? 3).map (fun i => (i.zero, i.size, i.bytes)) = some (some (.int .i64 0), 1, 8) := by kernel_rfl
def ones (k : Nat) : List Value := List.replicate k (.int .i64 1)
theorem ones_succ (k : Nat) : ones (k + 1) = ones k ++ [.int .i64 1] := by simp [ones, List.replicate_succ']
theorem own_weak {w : World} {base b : Nat} {e : TypeId} {size : Nat} {v : Value} {n : Nat} {xs : List Value} (h : w.ownsRow base e size v n xs) (hb : b ≤ base) : w.ownsRow b e size v n xs :=
  ⟨h.1, h.2.imp id (fun ⟨g, cap, cur, e1, e2, r⟩ => ⟨g, cap, cur, e1, Nat.le_trans hb e2, r⟩)⟩
theorem Most.set {n₀ x : Nat} (W : World) (v : Value) : Most n₀ x W (W.setCell ⟨x, 0, none⟩ v) := ⟨by simp, fun k _ hk => Below.heap_setCell _ _ _ k hk⟩
def intCells (x : Int) : List Value := [.int .i64 x]

set_option maxRecDepth 100000 in
set_option maxHeartbeats 4000000 in
theorem chain_any (ab : Nat) (A : Option Addr) (n c : Nat) (ts : List Trk) (w : World) (hn : n ≤ 1000000) (hsort : Sorted ts) (hg : guessN ts 1 = 1) (hh : hit ts 1 = true) (hc : C3 w ab) (ht : Tab w) (hs : Sl w w.heap.size 3 Trk.cells A n ts) :
    Calls Tryd.prog 15 #[.agg #[.slice (some ⟨ab, 0, none⟩) 3 3, .int .i64 0, .int .i64 1], .agg #[.slice A n c], .int .i64 1, .int .i64 3] w fun e w' => ∃ g c', e = .returned (.slice (some ⟨g, 0, none⟩) 3 c') ∧ w'.cell? ⟨g, 2, none⟩ = some (.int .i64 1) ∧ Below w.heap.size w w' := by
  obtain ⟨i0, hi, hz0, hz1, hz2⟩ := info_parts infoI
  refine (callsIn_wide (n := 5)).1 ?_
  refine callsIn_of_wp_marks Tryd.func15 rfl trivial ?_ rfl
  simp only [Tryd.ntmps15, List.size_toArray, List.length_cons, List.length_nil, Nat.reduceAdd, Nat.reduceSub, Array.replicate_succ, Array.replicate_zero, List.push_toArray, List.append_toArray, List.nil_append, List.cons_append]
  gi_wp2_with fail
  refine ⟨trivial, ?_⟩
  refine (callsIn_wide.2 (places_any ab A n c _)).mono ?_
  rintro e w' ⟨rfl, rfl⟩
  obtain ⟨V, hV⟩ : ∃ V, V = (((w.alloc (.cells #[.slice (some ⟨ab, 0, none⟩) 3 3, .int .i64 0, .int .i64 1] 54)).alloc (.cells #[.slice A n c] 26)).alloc (.cells #[.int .i64 3] 3)).alloc (.cells #[.slice none 0 0] 31) := ⟨_, rfl⟩
  rw [← hV]
  have hzV : V.heap.size = w.heap.size + 4 := by rw [hV]; simp
  have hbV : Below w.heap.size w V := by rw [hV]; exact (by repeat (first | (with_reducible exact (Below.refl _ _)) | (with_reducible refine Below.drew ?_) | (with_reducible refine below_drewN ?_ _) | (with_reducible refine Below.setCell ?_ ?_ _; rotate_left; (first | omega | (simp <;> omega))) | (with_reducible refine Below.alloc ?_ ?_ _; rotate_left; (first | omega | (simp <;> omega)))))
  have b3 : Boxed V (w.heap.size + 3) 31 (.slice none 0 0) := by rw [hV]; have := Boxed.new (((w.alloc (.cells #[.slice (some ⟨ab, 0, none⟩) 3 3, .int .i64 0, .int .i64 1] 54)).alloc (.cells #[.slice A n c] 26)).alloc (.cells #[.int .i64 3] 3)) 31 (.slice none 0 0); simpa using this
  have b2 : V.cell? ⟨w.heap.size + 2, 0, none⟩ = some (.int .i64 3) := by rw [hV, cell_old _ _ _ _ (by simp), cell_new _ _ _ _ _ (by simp)]; rfl
  clear hV
  obtain ⟨U, hU⟩ : ∃ U, U = ((V.alloc (.cells #[.slice (some ⟨ab, 0, none⟩) 3 3, .int .i64 0, .int .i64 1] 54)).alloc (.cells #[.slice A n c] 26)).alloc (.cells #[.int .i64 1] 3) := ⟨_, rfl⟩
  rw [← hU, hzV]
  have hzU : U.heap.size = w.heap.size + 7 := by rw [hU]; simp; omega
  have hbU : Below V.heap.size V U := by rw [hU]; exact (by repeat (first | (with_reducible exact (Below.refl _ _)) | (with_reducible refine Below.drew ?_) | (with_reducible refine below_drewN ?_ _) | (with_reducible refine Below.setCell ?_ ?_ _; rotate_left; (first | omega | (simp <;> omega))) | (with_reducible refine Below.alloc ?_ ?_ _; rotate_left; (first | omega | (simp <;> omega)))))
  have hbwU : Below w.heap.size w U := hbV.trans (hbU.mono (by omega))
  have k0 : U.cell? ⟨w.heap.size + 4, 0, none⟩ = some (.slice (some ⟨ab, 0, none⟩) 3 3) := by rw [hU, ← hzV, cell_old _ _ _ _ (by simp <;> omega), cell_old _ _ _ _ (by simp), cell_new _ _ _ _ _ rfl]; rfl
  have k1 : U.cell? ⟨w.heap.size + 4, 1, none⟩ = some (.int .i64 0) := by rw [hU, ← hzV, cell_old _ _ _ _ (by simp <;> omega), cell_old _ _ _ _ (by simp), cell_new _ _ _ _ _ rfl]; rfl
  have k2 : U.cell? ⟨w.heap.size + 4, 2, none⟩ = some (.int .i64 1) := by rw [hU, ← hzV, cell_old _ _ _ _ (by simp <;> omega), cell_old _ _ _ _ (by simp), cell_new _ _ _ _ _ rfl]; rfl
  have q0 : U.cell? ⟨w.heap.size + 4 + 1, 0, none⟩ = some (.slice A n c) := by rw [hU, ← hzV, cell_old _ _ _ _ (by simp), cell_new _ _ _ _ _ (by simp)]; rfl
  have s0 : U.cell? ⟨w.heap.size + 4 + 2, 0, none⟩ = some (.int .i64 1) := by rw [hU, ← hzV, cell_new _ _ _ _ _ (by simp)]; rfl
  have hC : Cap U U.heap.size (w.heap.size + 3) (w.heap.size + 4 + 2) (w.heap.size + 4) (w.heap.size + 4 + 1) ab A n c ts :=
    ⟨Nat.le_refl _, by omega, ⟨by omega, by omega⟩, ⟨by omega, by omega⟩, ⟨by omega, by omega⟩, s0, k0, k1, k2, q0, by have := hc.lt; omega, by omega, hc.below hbwU, ht.below hbwU, (hs.below hbwU).mono (by omega)⟩
  have HCap := Lib.hid hC
  have b3U : Boxed U (w.heap.size + 3) 31 (.slice none 0 0) := (hbU.block _ (by omega)).trans b3
  have b2U : U.cell? ⟨w.heap.size + 2, 0, none⟩ = some (.int .i64 3) := (belc hbU (by omega)).trans b2
  have HZU := Lib.hid hzU
  have HB3 := Lib.hid b3U
  clear hU hC hzV hzU k0 k1 k2 q0 s0 b2 b3 b3U
  gi_wp2
  refine range_to (encs := fun _ : Unit => #[.int .i64 1]) (Kp := Most U.heap.size (w.heap.size + 3)) (S := fun _ => False) (Sp := fun _ => True) (gf := 26) (lb := #[.pointer (some ⟨w.heap.size + 4 + 2, 0, none⟩), .pointer (some ⟨w.heap.size + 4, 0, none⟩), .pointer (some ⟨w.heap.size + 4 + 1, 0, none⟩)]) rfl (by omega) rfl trivial (enters_of Tryd.func26 (by kernel_rfl) rfl) (fun h k => h.trans k) (fun W l o h1 h2 => Most.put o h1 h2)
    (places_to 4 U.heap.size (w.heap.size + 3) (w.heap.size + 4 + 2) (w.heap.size + 4) (w.heap.size + 4 + 1) ab (by omega) A n c 3 ts U hn hsort hg hh HCap.out) (Below.refl _ _) (fun _ => rfl)
    (fun pre W => ((pre.length < 3 ∧ (∃ v, Boxed W (w.heap.size + 3) 31 v ∧ W.ownsRow U.heap.size 3 1 v pre.length (ones pre.length) ∧ True) ∧ W.cell? ⟨w.heap.size + 2, 0, none⟩ = some (.int .i64 3) ∧ U.heap.size ≤ W.heap.size)) ∧ Below w.heap.size w W)
    (fun c pre W => (c = .exit 0 ∧ (∃ v, Boxed W (w.heap.size + 3) 31 v ∧ W.ownsRow U.heap.size 3 1 v 3 (ones 3) ∧ True)) ∧ Below w.heap.size w W)
    (OwnFrom.and (Own.from (fun s X Y row hs hg hr => ⟨hs.1, holdsRow_own U.heap.size (w.heap.size + 3) 31 3 1 (fun pre : List Unit => pre.length) (fun pre => ones pre.length) (fun _ _ => True) s X Y row hs.2.1 hg hr, cell_kept hs.2.2.1 hg hr, Nat.le_trans hs.2.2.2 hg.size⟩) _) (ownFrom_below (Nat.le_refl _) (by have := HZU.out; omega)))
    (fun c => OwnFrom.and (Own.from (fun s X Y row hs hg hr => ⟨hs.1, holdsRow_own U.heap.size (w.heap.size + 3) 31 3 1 (fun _ : List Unit => 3) (fun _ => ones 3) (fun _ _ => True) s X Y row hs.2 hg hr⟩) _) (ownFrom_below (Nat.le_refl _) (by have := HZU.out; omega)))
    ?keep ⟨⟨by simp, ⟨_, HB3.out, World.ownsRow_nil _ _ _ _, trivial⟩, b2U, Nat.le_refl _⟩, hbwU⟩ (fun pre W h => h.1.1)
    (fun x => { tmps := #[.agg #[.slice (some ⟨ab, 0, none⟩) 3 3, .int .i64 0, .int .i64 1], .agg #[.slice A n c], .int .i64 1, .int .i64 3, .pointer (some ⟨w.heap.size, 0, none⟩), .pointer (some ⟨w.heap.size + 1, 0, none⟩), undef, .pointer (some ⟨w.heap.size + 1 + 1, 0, none⟩), .slice none 0 0, .pointer (some ⟨w.heap.size + 1 + 1 + 1, 0, none⟩), .int .i64 1, .int .i64 3, .bool false, undef, .agg #[.slice (some ⟨ab, 0, none⟩) 3 3, .int .i64 0, .int .i64 1], .agg #[.slice A n c], .int .i64 1, .func (.func 26) #[] #[.pointer (some ⟨w.heap.size + 4 + 2, 0, none⟩), .pointer (some ⟨w.heap.size + 4, 0, none⟩), .pointer (some ⟨w.heap.size + 4 + 1, 0, none⟩)], .int .i64 1, undef, undef, undef, undef, undef, undef, undef, undef, undef, undef], defers := [] }) ?assign ?body ?done ?stop
  case keep =>
    rintro pre X Y ⟨⟨h1, ⟨v, hv, hr, _⟩, h3, h4⟩, h5⟩ hb
    exact ⟨⟨h1, ⟨v, (hb.block _ hv.lt).trans hv, own_below hr hb, trivial⟩, (belc hb (World.block_lt_of_cell? X _ h3)).trans h3, Nat.le_trans h4 hb.size⟩, h5.trans (hb.mono h5.size)⟩
  case assign =>
    intro l x W K hK
    gi_wp2
    exact hK
  case body =>
    rintro l pre x W ⟨⟨hlt, ⟨v, hv, hrow, _⟩, c2, hzW⟩, hB⟩
    have hc3 := hv.cell
    have hx0 : w.heap.size + 3 < U.heap.size := by have := HZU.out; omega
    have hob : ∀ j, v.ownBlock = some j → U.heap.size ≤ j ∧ j < W.heap.size := fun j hj => hrow.lt j hj
    have HOB := Lib.hid hob
    have HHR := Lib.hid hrow
    clear hob
    obtain ⟨k, hk⟩ : ∃ k, k = pre.length := ⟨_, rfl⟩
    rw [← hk] at hlt hrow
    have hkc : k = 2 ∨ k ≠ 2 := by omega
    rcases hkc with rfl | hk2
    · have HK := Lib.hid hk
      clear hk
      gi_wp2_with (gi_at_builtin; refine wpListIn_append_own _ rfl _ _ 31 rfl U.heap.size 3 i0 (.int .i64 0) 1 8 Tryd.underlying31 hi hz0 hz1 hz2 rfl (by decide) _ _ _ rfl (hrow.alloc _) ⟨W.heap.size, 0, none⟩ 1 1 [.int .i64 1] rfl rfl (cell_one_new _ _ _) (by simp [Value.oneCell']) (by unfold maxLen; omega) (by omega) (by simp; omega) ?_; intro v' w1 hown' hgrow _; obtain ⟨g', cap', rfl⟩ := ownsRow_succ hown'; obtain ⟨hv1, hv2, hr2, hk2, hb2⟩ := hv.appended (n₀ := w.heap.size + 3) (by decide) (own_weak hrow (by omega)) (by omega) (Nat.le_refl _) (own_weak hown' (by omega)) hgrow; have hc1 := hv1.cell; have hf1 := hv1.frozen; have c2' := ((gcell hgrow).1 (w.heap.size + 2) 0 (by simp; omega) (fun e => by have := HOB.out _ e.symm; omega)).trans ((cell_old W _ (w.heap.size + 2) 0 (by omega)).trans c2); have hmost := ((Most.of_below (n₀ := U.heap.size) (x := w.heap.size + 3) ((Below.refl U.heap.size W).alloc hzW _)).trans (Most.grown hgrow (fun j hj => .inl (HOB.out j hj).1) (by simp; omega))))
      have hmost2 := hmost.trans (Most.set (n₀ := U.heap.size) (x := w.heap.size + 3) w1 (.slice (some ⟨g', 0, none⟩) (2 + 1) cap'))
      have hown2 := hown'.kept (grownBy_setCell' w1 (w.heap.size + 3) (.slice (some ⟨g', 0, none⟩) (2 + 1) cap')) (.inr (hv1.not_row (by decide) hown').symm)
      have c2s := (set_other w1 ⟨w.heap.size + 3, 0, none⟩ ⟨w.heap.size + 2, 0, none⟩ (.slice (some ⟨g', 0, none⟩) (2 + 1) cap') (by simp)).trans c2'
      rw [show ones 2 ++ [Value.int .i64 1] = ones 3 from rfl] at hown2
      exact ⟨hk2.from _, ⟨rfl, ⟨_, hv2, hown2, trivial⟩⟩, hB.trans (hb2.mono (by omega))⟩
    · have hk1 : ¬ 3 ≤ k + 1 := by omega
      have hk1' : k + 1 < 3 := by omega
      have hk1I : (k : Int) + 1 < 3 := by omega
      have HK := Lib.hid hk
      clear hk
      gi_wp2_with (gi_at_builtin; refine wpListIn_append_own _ rfl _ _ 31 rfl U.heap.size 3 i0 (.int .i64 0) 1 8 Tryd.underlying31 hi hz0 hz1 hz2 rfl (by decide) _ _ _ rfl (hrow.alloc _) ⟨W.heap.size, 0, none⟩ 1 1 [.int .i64 1] rfl rfl (cell_one_new _ _ _) (by simp [Value.oneCell']) (by unfold maxLen; omega) (by omega) (by simp; omega) ?_; intro v' w1 hown' hgrow _; obtain ⟨g', cap', rfl⟩ := ownsRow_succ hown'; obtain ⟨hv1, hv2, hr2, hk2, hb2⟩ := hv.appended (n₀ := w.heap.size + 3) (by decide) (own_weak hrow (by omega)) (by omega) (Nat.le_refl _) (own_weak hown' (by omega)) hgrow; have hc1 := hv1.cell; have hf1 := hv1.frozen; have c2' := ((gcell hgrow).1 (w.heap.size + 2) 0 (by simp; omega) (fun e => by have := HOB.out _ e.symm; omega)).trans ((cell_old W _ (w.heap.size + 2) 0 (by omega)).trans c2); have hmost := ((Most.of_below (n₀ := U.heap.size) (x := w.heap.size + 3) ((Below.refl U.heap.size W).alloc hzW _)).trans (Most.grown hgrow (fun j hj => .inl (HOB.out j hj).1) (by simp; omega))))
      have hmost2 := hmost.trans (Most.set (n₀ := U.heap.size) (x := w.heap.size + 3) w1 (.slice (some ⟨g', 0, none⟩) (k + 1) cap'))
      have hown2 := hown'.kept (grownBy_setCell' w1 (w.heap.size + 3) (.slice (some ⟨g', 0, none⟩) (k + 1) cap')) (.inr (hv1.not_row (by decide) hown').symm)
      have c2s := (set_other w1 ⟨w.heap.size + 3, 0, none⟩ ⟨w.heap.size + 2, 0, none⟩ (.slice (some ⟨g', 0, none⟩) (k + 1) cap') (by simp)).trans c2'
      have hl : (pre ++ [x]).length = k + 1 := by rw [List.length_append, ← HK.out]; rfl
      rw [← ones_succ] at hown2
      exact ⟨hk2.from _, hmost2, ⟨by rw [hl]; omega, ⟨_, hv2, by rw [hl]; exact hown2, trivial⟩, c2s, Nat.le_trans hzW hmost2.size⟩, hB.trans (hb2.mono (by omega))⟩
  case done =>
    rintro D ys W hD h _ _
    exact h.elim
  case stop =>
    rintro D c' pre W hD _ ⟨⟨rfl, ⟨v, hv, hrow, _⟩⟩, hB⟩ hK
    have hc3 := hv.cell
    obtain ⟨g', cap', rfl⟩ := ownsRow_succ hrow
    have hx := HZU.out
    gi_wp2
    refine ⟨by simp, .inl ⟨_, _, rfl, run_takeDeferred hK, ?_⟩⟩
    have hrow2 := ownsRow_putObj hrow (.deferred none) hK rfl
    refine ⟨_, results_tmp rfl _ _ _, g', cap', rfl, ?_, hB.trans (belowK_b (w := w) (Nat.le_refl _) W D _ _ (by omega) hK rfl rfl)⟩
    have := hrow2.cells (g := g') rfl 2 (.int .i64 1) rfl
    simpa [Addr.add] using this
end Go.Proofs.YtbmembmiejmoaaaDoor
