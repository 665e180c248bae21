/- slices.Insert of one element into a row that the call owns, at elements of 3 cells: in place where there is room, else a new row. Conditions: the place is at most the length; few elements. -/
import Derived.Test.YteeglmlmconbmaaKit
import Derived.Lib.AppendZerosOnto
import Derived.Laws.Externs
namespace Go.Proofs.Yteeglmlmconbmaa
open Go.RowKit
namespace InsTrk

theorem infoE : (Try.prog.info? 28).map (fun i => (i.zero, i.size, i.bytes)) = some (some (.agg #[.int .i64 0, .int .i64 0, .int .i64 0]), 3, 24) := by kernel_rfl
theorem sizeE : (Try.prog.info? 28).map (·.size) = some 3 := by kernel_rfl

theorem end_nil (cs : List Value) (base vb : Nat) (w : World) (hbase : base ≤ w.heap.size) (hcs : cs.length = 3) (hvb : w.heap[vb]? = some (.cells cs.toArray 28 (0, 0))) (h1 : ∀ u ∈ cs, u.oneCell' = true) :
    Calls Try.prog 14 #[.slice none 0 0, .int .i64 0, .slice (some ⟨vb, 0, none⟩) 1 1] w fun e w' => ∃ v', e = .returned v' ∧ w'.ownsRow base 28 3 v' 1 cs ∧ w.grownBy w' none := by
  obtain ⟨i0, hi, hz0, hz1, hz2⟩ := info_parts infoE
  have HC := Lib.hid hcs
  have HV := Lib.hid hvb
  clear hcs hvb
  go_enter Try.func14, Try.ntmps14
  go_wp2_with (at_builtin; refine wpList_append_own _ rfl _ _ 23 rfl base 28 i0 _ 3 24 Try.underlying23 hi hz0 hz1 hz2 rfl (by decide) _ _ _ rfl (World.ownsRow_nil _ _ _ _) ⟨vb, 0, none⟩ 1 1 cs rfl (by rw [HC.out]) (World.news_of_block HV.out) h1 (by unfold maxLen; omega) (by omega) hbase ?_; intro v' w1 hown1 hgrow1 _)
  go_ret
  exact ⟨_, rfl, hown1, hgrow1⟩

theorem end_some (g n cap : Nat) (xs cs : List Value) (base vb : Nat) (w : World) (hown : w.ownsRow base 28 3 (.slice (some ⟨g, 0, none⟩) n cap) n xs) (_hnc : n ≤ cap) (_hcm : cap ≤ 9223372036854775807) (hn : n ≤ 1000000) (hbase : base ≤ w.heap.size)
    (hcs : cs.length = 3) (hvb : w.heap[vb]? = some (.cells cs.toArray 28 (0, 0))) (h1 : ∀ u ∈ cs, u.oneCell' = true) :
    Calls Try.prog 14 #[.slice (some ⟨g, 0, none⟩) n cap, .int .i64 n, .slice (some ⟨vb, 0, none⟩) 1 1] w fun e w' => ∃ v', e = .returned v' ∧ w'.ownsRow base 28 3 v' (n + 1) (xs ++ cs) ∧ w.grownBy w' (some g) := by
  obtain ⟨i0, hi, hz0, hz1, hz2⟩ := info_parts infoE
  have HC := Lib.hid hcs
  have HV := Lib.hid hvb
  clear hcs hvb
  by_cases hcap : cap = n
  all_goals
    go_enter Try.func14, Try.ntmps14
    go_wp2_with (at_builtin; refine wpList_append_own _ rfl _ _ 23 rfl base 28 i0 _ 3 24 Try.underlying23 hi hz0 hz1 hz2 rfl (by decide) _ _ _ rfl hown ⟨vb, 0, none⟩ 1 1 cs rfl (by rw [HC.out]) (World.news_of_block HV.out) h1 (by unfold maxLen; omega) (by omega) hbase ?_; intro v' w1 hown1 hgrow1 _)
    go_ret
    exact ⟨_, rfl, hown1, hgrow1⟩

set_option maxHeartbeats 1000000 in
theorem shift (g n cap i : Nat) (cur xs cs : List Value) (vb : Nat) (w : World) (hg : w.heap[g]? = some (.cells cur.toArray 28 (0, 0))) (hcur : cur.length = cap * 3) (hx : cur.take (n * 3) = xs)
    (hi : i < n) (hroom : n + 1 ≤ cap) (hcm : cap ≤ 9223372036854775807) (hn : n ≤ 1000000)
    (hcs : cs.length = 3) (hvb : w.heap[vb]? = some (.cells cs.toArray 28 (0, 0))) (hne : vb ≠ g) (h1 : ∀ u ∈ cs, u.oneCell' = true) (h1x : ∀ u ∈ xs, u.oneCell' = true) :
    Calls Try.prog 14 #[.slice (some ⟨g, 0, none⟩) n cap, .int .i64 i, .slice (some ⟨vb, 0, none⟩) 1 1] w fun e w' =>
      e = .returned (.slice (some ⟨g, 0, none⟩) (n + 1) cap) ∧ Hid (w'.heap[g]? = some (.cells (splice (splice cur ((i + 1) * 3) (xs.drop (i * 3))) (i * 3) cs).toArray 28 (0, 0))) ∧ w.grownBy w' (some g) := by
  have hxl : xs.length = n * 3 := by rw [← hx, List.length_take, hcur]; omega
  have hvs : w.shape? vb = some (28, 3) := by simp [World.shape?, hvb, hcs]
  have hgs : w.shape? g = some (28, cap * 3) := by simp [World.shape?, hg, hcur]
  have hfa : w.frozen? ⟨vb, 0, none⟩ = false := by simp [World.frozen?, hvb]
  have hfe : w.frozen? ⟨vb, 3, none⟩ = false := by simp [World.frozen?, hvb]
  have hov : ∀ lb cb, (callFunc 19 #[.slice (some ⟨vb, 0, none⟩) 1 1, .slice (some ⟨g, (i + 1) * 3, none⟩) lb cb]).run Try.prog w = .ok (.value (.bool false)) w := fun lb cb => by
    rw [run_callFunc_extern Try.func19 (by kernel_rfl) (by kernel_rfl) (by kernel_rfl) (e := Extern.SlicesOverlaps.overlaps #[23, 23] #[4]) (by kernel_rfl),
      Lib.run_overlaps_apart w 23 4 28 Try.underlying23 3 (fun w => by kernel_rfl) ⟨vb, 0, none⟩ ⟨g, (i + 1) * 3, none⟩ 1 1 lb cb hne _ _ _ _ hvs hgs (by omega) hfa hfe]
    rfl
  have HG := Lib.hid hg
  have HC := Lib.hid hcs
  have HV := Lib.hid hvb
  have HX := Lib.hid hx
  have HXL := Lib.hid hxl
  have HCU := Lib.hid hcur
  have hb2 : ¬ (cap = i + 1) := by omega
  have hb4 : ¬ (cap = i) := by omega
  clear hg hcs hvb hvs hgs hx hxl hcur
  go_enter Try.func14, Try.ntmps14
  go_wp2_with (simp only [hov])
  have hsrc1 : ∀ (j : Nat) (u : Value), (xs.drop (i * 3))[j]? = some u → w.drew.cell? ((⟨g, i * 3, none⟩ : Addr).add j) = some u := fun j u hu => by
    rw [Addr.add_lit]
    show w.cell? _ = _
    rw [cell_of_row w g _ _ _ _ HG.out]
    rw [← HX.out, List.getElem?_drop, List.getElem?_take] at hu
    split at hu
    · simpa using hu
    · cases hu
  have hw1 : IntKind.i64.wrap ((i : Int) + 1) = (i : Int) + 1 := IntWalk.i64_in _ (by omega)
  have hb1 : (0 : Int) ≤ (i : Int) + 1 := by omega
  have hin : i ≤ n := by omega
  have htn : ((i : Int) + 1).toNat = i + 1 := by omega
  have hb3 : (i : Int) ≤ (n : Int) + 1 := by omega
  go_region_law (refine step_copy_N rfl _ _ 23 23 rfl 28 3 Try.underlying23 sizeE g ((i + 1) * 3) (n - i) (cap - (i + 1)) ⟨g, i * 3, none⟩ (n + 1 - i) (cap - i) (by simp [Act.eval, Act.put]) (by simp [Act.eval, Act.put]) cur 28 HG.out (xs.drop (i * 3)) (by rw [List.length_drop, HXL.out, show Nat.min (n + 1 - i) (n - i) = n - i from Nat.min_eq_right (by omega)]; omega) hsrc1 (by rw [List.length_drop, HXL.out, HCU.out]; omega) (fun u hu => h1x u (List.mem_of_mem_drop hu)) ?_; intro w1 hg1 hgr1)
  clear hw1 hb1 htn hb3
  have hlen : (splice cur ((i + 1) * 3) (xs.drop (i * 3))).length = cap * 3 := by rw [length_splice _ _ _ (by rw [List.length_drop, HXL.out, HCU.out]; omega), HCU.out]
  have hvb1 : w1.heap[vb]? = some (.cells cs.toArray 28 (0, 0)) := (hgr1.block vb (by have h := HV.out; rcases Nat.lt_or_ge vb w.heap.size with h' | h'; exact h'; rw [Array.getElem?_eq_none h'] at h; cases h) (by simpa using hne)).trans HV.out
  have HL := Lib.hid hlen
  have HW := Lib.hid hvb1
  clear hlen hvb1 hsrc1
  go_wp2_with (with_reducible refine wpList_copy_N rfl _ _ 23 23 rfl 28 3 Try.underlying23 sizeE g (i * 3) (n + 1 - i) (cap - i) ⟨vb, 0, none⟩ 1 1 rfl rfl (splice cur ((i + 1) * 3) (xs.drop (i * 3))) 28 hg1.out cs (by rw [HC.out, show Nat.min 1 (n + 1 - i) = 1 from Nat.min_eq_left (by omega)]) (fun j u hu => by rw [Addr.add_lit, cell_of_row _ _ _ _ _ _ HW.out]; simpa using hu) (by rw [HC.out, HL.out]; omega) h1 ?_; intro w2 hg2 hgr2)
  go_ret
  exact ⟨rfl, hg2, ⟨hgr2.os.trans hgr1.os, hgr2.tape.trans hgr1.tape, hgr2.output.trans hgr1.output, Nat.le_trans hgr1.size hgr2.size, fun k hk hkr => (hgr2.block k (Nat.lt_of_lt_of_le hk hgr1.size) hkr).trans (hgr1.block k hk hkr)⟩⟩

set_option maxHeartbeats 1000000 in
theorem grow (g n cap i : Nat) (cur xs cs : List Value) (vb : Nat) (w : World) (hg : w.heap[g]? = some (.cells cur.toArray 28 (0, 0))) (hcur : cur.length = cap * 3) (hx : cur.take (n * 3) = xs)
    (hi : i < n) (hroom : cap < n + 1) (hnc : n ≤ cap) (hn : n ≤ 1000000)
    (hcs : cs.length = 3) (hvb : w.heap[vb]? = some (.cells cs.toArray 28 (0, 0))) (h1 : ∀ u ∈ cs, u.oneCell' = true) (h1x : ∀ u ∈ xs, u.oneCell' = true) :
    Calls Try.prog 14 #[.slice (some ⟨g, 0, none⟩) n cap, .int .i64 i, .slice (some ⟨vb, 0, none⟩) 1 1] w fun e w' =>
      ∃ (G : Nat) (row : List Value), n + 1 ≤ G ∧ G ≤ 9223372036854775807 ∧ row.length = G * 3 ∧ row.take (i * 3) = xs.take (i * 3) ∧ e = .returned (.slice (some ⟨w.heap.size, 0, none⟩) (n + 1) G) ∧
        Hid (w'.heap[w.heap.size]? = some (.cells (splice (splice row (i * 3) cs) ((i + 1) * 3) (xs.drop (i * 3))).toArray 28 (0, 0))) ∧ w.grownBy w' none := by
  obtain ⟨i0, hi0, hz0, hzs, hzb⟩ := info_parts infoE
  have hxl : xs.length = n * 3 := by rw [← hx, List.length_take, hcur, Nat.min_eq_left (Nat.mul_le_mul_right _ hnc)]
  have hgw : g < w.heap.size := by rcases Nat.lt_or_ge g w.heap.size with h' | h'; exact h'; rw [Array.getElem?_eq_none h'] at hg; cases hg
  have hvw : vb < w.heap.size := by rcases Nat.lt_or_ge vb w.heap.size with h' | h'; exact h'; rw [Array.getElem?_eq_none h'] at hvb; cases hvb
  have hxc : ∀ (j : Nat) (u : Value), xs[j]? = some u → w.cell? ⟨g, j, none⟩ = some u := fun j u hu => by
    rw [cell_of_row w g _ _ _ _ hg]
    rw [← hx, List.getElem?_take] at hu
    split at hu
    · simpa using hu
    · cases hu
  have hkk : (n : Int) + 1 - (i : Int) = ((n + 1 - i : Nat) : Int) := by omega
  have hik : i + (n + 1 - i) = n + 1 := by omega
  have hold : (Builtin.firstCells i0.size i (.slice (some ⟨g, 0, none⟩) i cap)).run Try.prog w.drew = .ok (xs.take (i * 3)).toArray w.drew := by
    rw [hzs]
    exact run_firstCells_some w.drew 3 i ⟨g, 0, none⟩ i cap (xs.take (i * 3)) (by rw [List.length_take, hxl]; omega) (fun j v hj => by
      rw [Addr.add_lit]
      rw [List.getElem?_take] at hj
      split at hj
      · rw [Nat.zero_add]; exact hxc j v hj
      · cases hj)
  have hrz : ∀ ty, (Builtin.append_ #[23, 3] ty #[.slice (some ⟨g, 0, none⟩) i cap, .int .i64 ((n : Int) + 1 - (i : Int))]).run Try.prog w =
      .ok (.slice (some ⟨w.heap.size, 0, none⟩) (n + 1) (grownCap w (n + 1) cap 28)) (w.drew.alloc (.cells ((xs.take (i * 3)).toArray ++ Builtin.zeroCells (.agg #[.int .i64 0, .int .i64 0, .int .i64 0] : Value).cells (n + 1 - i) ++ Builtin.zeroCells (.agg #[.int .i64 0, .int .i64 0, .int .i64 0] : Value).cells (grownCap w (n + 1) cap 28 - (n + 1))) 28)) := fun ty => by
    have h := Lib.run_append_grow_zeros w 23 3 ty 28 i0 _ .i64 .i64 Try.underlying23 Try.underlying3 hi0 hz0 (some ⟨g, 0, none⟩) i cap (xs.take (i * 3)) hold (n + 1 - i) (by omega) (by omega) (by omega) (by omega) (by rw [hzb]; omega) (by rw [hzb, hik]; exact growslice_fits hroom (by omega))
    rw [hik] at h
    rw [hkk]
    exact h
  obtain ⟨G, hG⟩ : ∃ G, G = grownCap w (n + 1) cap 28 := ⟨_, rfl⟩
  obtain ⟨row, hrow⟩ : ∃ row : List Value, row = ((xs.take (i * 3)).toArray ++ Builtin.zeroCells (.agg #[.int .i64 0, .int .i64 0, .int .i64 0] : Value).cells (n + 1 - i) ++ Builtin.zeroCells (.agg #[.int .i64 0, .int .i64 0, .int .i64 0] : Value).cells (G - (n + 1))).toList := ⟨_, rfl⟩
  have hGn : n + 1 ≤ G := by rw [hG]; exact grownCap_ge w _ _ _
  have hG63 : G ≤ 9223372036854775807 := by
    have := grownCap_le_maxLen w (n + 1) cap 28 (by unfold maxLen; omega)
    rw [← hG] at this
    unfold maxLen at this
    omega
  have htl : (xs.take (i * 3)).length = i * 3 := by rw [List.length_take, hxl]; omega
  have hz5 : (Value.cells (.agg #[.int .i64 0, .int .i64 0, .int .i64 0])).size = 3 := rfl
  have hRl : row.length = G * 3 := by
    rw [hrow]
    simp only [Array.toList_append, List.length_append, Array.length_toList, size_zeroCells, htl, hz5]
    omega
  have hRt : row.take (i * 3) = xs.take (i * 3) := by
    rw [hrow]
    simp only [Array.toList_append, List.append_assoc]
    rw [List.take_append_of_le_length (by rw [htl]; exact Nat.le_refl _), List.take_of_length_le (by rw [htl]; exact Nat.le_refl _)]
  rw [← hG] at hrz
  have hrow' : ((xs.take (i * 3)).toArray ++ Builtin.zeroCells (.agg #[.int .i64 0, .int .i64 0, .int .i64 0] : Value).cells (n + 1 - i) ++ Builtin.zeroCells (.agg #[.int .i64 0, .int .i64 0, .int .i64 0] : Value).cells (G - (n + 1))) = row.toArray := by rw [hrow]
  rw [hrow'] at hrz
  have HG := Lib.hid hg
  have HC := Lib.hid hcs
  have HV := Lib.hid hvb
  have HXL := Lib.hid hxl
  have HXC := Lib.hid hxc
  have HRL := Lib.hid hRl
  have HRT := Lib.hid hRt
  have HB : Hid ((w.alloc (.cells row.toArray 28)).drew.heap[w.heap.size]? = some (.cells row.toArray 28 (0, 0))) := by exact heap_alloc_new w _
  have HR := Lib.hid hrz
  have hci : ¬ (cap = i) := by omega
  have hGi : ¬ (G = i) := by omega
  have hGi1 : ¬ (G = i + 1) := by omega
  clear hg hcs hvb hx hxl hcur hxc hkk hik hold hrow hrow' hRl hRt htl hz5 hrz hi0 hz0 hzs hzb hG
  go_enter Try.func14, Try.ntmps14
  have hvr : (w.alloc (.cells row.toArray 28)).drew.heap[vb]? = some (.cells cs.toArray 28 (0, 0)) := (Below.heap_alloc w _ vb hvw).trans HV.out
  have HVR := Lib.hid hvr
  clear hvr
  go_wp2_with (first | (at_builtin; refine Lib.wpList_append_run _ rfl _ _ _ _ rfl _ _ rfl rfl _ _ (HR.out _) ?_) | (with_reducible refine wpList_copy_N rfl _ _ 23 23 rfl 28 3 Try.underlying23 sizeE w.heap.size (i * 3) (n + 1 - i) (G - i) ⟨vb, 0, none⟩ 1 1 rfl rfl row 28 HB.out cs (by rw [HC.out, show Nat.min 1 (n + 1 - i) = 1 from Nat.min_eq_left (by omega)]) (fun j u hu => by rw [Addr.add_lit, cell_of_row _ _ _ _ _ _ HVR.out]; simpa using hu) (by rw [HC.out, HRL.out]; omega) h1 ?_; intro w1 hg1 hgr1))
  have hgw1 : g < (w.alloc (.cells row.toArray 28)).drew.heap.size := by show g < (w.alloc (.cells row.toArray 28)).heap.size; simp; omega
  have hx1 : ∀ (j : Nat) (u : Value), xs[j]? = some u → w1.cell? ⟨g, j, none⟩ = some u := fun j u hu => by
    have e1 := hgr1.block g hgw1 (by intro e; injection e; omega)
    have e2 : w1.heap[g]? = w.heap[g]? := e1.trans (Below.heap_alloc w _ g hgw)
    rw [World.cell?_of_block (w := w) e2]
    exact HXC.out j u hu
  have hlen : (splice row (i * 3) cs).length = G * 3 := by rw [length_splice _ _ _ (by rw [HC.out, HRL.out]; omega), HRL.out]
  have hsrc1 : ∀ (j : Nat) (u : Value), (xs.drop (i * 3))[j]? = some u → w1.drew.cell? ((⟨g, i * 3, none⟩ : Addr).add j) = some u := fun j u hu => by
    rw [Addr.add_lit]
    rw [List.getElem?_drop] at hu
    exact hx1 _ u hu
  have HL := Lib.hid hlen
  have hw1 : IntKind.i64.wrap ((i : Int) + 1) = (i : Int) + 1 := IntWalk.i64_in _ (by omega)
  have hb1 : (0 : Int) ≤ (i : Int) + 1 := by omega
  have hin : i ≤ n := by omega
  have htn : ((i : Int) + 1).toNat = i + 1 := by omega
  have hb3 : (i : Int) ≤ (n : Int) := by omega
  clear hlen hx1 hgw1
  go_region_law (refine step_copy_N rfl _ _ 23 23 rfl 28 3 Try.underlying23 sizeE w.heap.size ((i + 1) * 3) (n - i) (G - (i + 1)) ⟨g, i * 3, none⟩ (n - i) (cap - i) (by simp [Act.eval, Act.put]) (by simp [Act.eval, Act.put]) (splice row (i * 3) cs) 28 hg1.out (xs.drop (i * 3)) (by rw [List.length_drop, HXL.out, show Nat.min (n - i) (n - i) = n - i from Nat.min_eq_left (Nat.le_refl _)]; omega) hsrc1 (by rw [List.length_drop, HXL.out, HL.out]; omega) (fun u hu => h1x u (List.mem_of_mem_drop hu)) ?_; intro w2 hg2 hgr2)
  clear hw1 hb1 htn hb3
  go_wp2
  go_ret
  have hz1 := hgr1.size
  have hz0 : (w.alloc (.cells row.toArray 28)).drew.heap.size = w.heap.size + 1 := by show (w.alloc (.cells row.toArray 28)).heap.size = _; simp
  rw [hz0] at hz1
  refine ⟨G, row, hGn, hG63, HRL.out, HRT.out, rfl, hg2, ⟨hgr2.os.trans hgr1.os, hgr2.tape.trans hgr1.tape, hgr2.output.trans hgr1.output, ?_, fun k hk _ => ?_⟩⟩
  · have h2 : w1.heap.size ≤ w2.heap.size := hgr2.size
    omega
  · exact (hgr2.block k (show k < w1.heap.size by omega) (by intro e; injection e; omega)).trans ((hgr1.block k (by rw [hz0]; omega) (by intro e; injection e; omega)).trans (Below.heap_alloc w _ k hk))

/-- Insert, at every place: the row behind it is the call's own again. -/
theorem any (v : Value) (n i : Nat) (xs cs : List Value) (base vb : Nat) (w : World) (hown : w.ownsRow base 28 3 v n xs) (hi : i ≤ n) (hn : n ≤ 1000000) (hbase : base ≤ w.heap.size)
    (hcs : cs.length = 3) (hvb : w.heap[vb]? = some (.cells cs.toArray 28 (0, 0))) (hne : v.ownBlock ≠ some vb) (h1 : ∀ u ∈ cs, u.oneCell' = true) (h1x : ∀ u ∈ xs, u.oneCell' = true) :
    Calls Try.prog 14 #[v, .int .i64 i, .slice (some ⟨vb, 0, none⟩) 1 1] w fun e w' =>
      ∃ A' c', e = .returned (.slice A' (n + 1) c') ∧ w'.ownsRow base 28 3 (.slice A' (n + 1) c') (n + 1) (xs.take (i * 3) ++ cs ++ xs.drop (i * 3)) ∧ w.grownBy w' v.ownBlock := by
  have hxl := hown.1
  rcases hown.2 with ⟨rfl, rfl⟩ | ⟨g, cap, cur, rfl, hbg, hg, hnc, hcm, hcs', htake⟩
  · obtain rfl : i = 0 := by omega
    obtain rfl : xs = [] := List.eq_nil_of_length_eq_zero (by simpa using hxl)
    refine (end_nil cs base vb w hbase hcs hvb h1).mono ?_
    rintro e w' ⟨v', rfl, h2, h3⟩
    rcases own_form h2 (by omega) with ⟨A', c', rfl⟩
    exact ⟨A', c', rfl, by simpa using h2, h3⟩
  · have hne' : vb ≠ g := by rintro rfl; exact hne rfl
    have hcm' : cap ≤ 9223372036854775807 := by unfold maxLen at hcm; omega
    have hcl : cur.toList.length = cap * 3 := by rw [Array.length_toList, hcs']
    have hg' : w.heap[g]? = some (.cells cur.toList.toArray 28 (0, 0)) := by simpa using hg
    have hmul : n * 3 ≤ cap * 3 := Nat.mul_le_mul_right _ hnc
    by_cases hin : i = n
    · subst hin
      refine (end_some g i cap xs cs base vb w hown hnc hcm' hn hbase hcs hvb h1).mono ?_
      rintro e w' ⟨v', rfl, h2, h3⟩
      rcases own_form h2 (by omega) with ⟨A', c', rfl⟩
      refine ⟨A', c', rfl, ?_, h3⟩
      rw [List.take_of_length_le (by omega), List.drop_eq_nil_of_le (by omega), List.append_nil]
      exact h2
    · by_cases hroom : n + 1 ≤ cap
      · refine (shift g n cap i cur.toList xs cs vb w hg' hcl htake (by omega) hroom hcm' hn hcs hvb hne' h1 h1x).mono ?_
        rintro e w' ⟨rfl, h2, h3⟩
        have hs := splice_shift cur.toList xs cs (i * 3) 3 (n * 3) htake hcs (by omega) (by omega)
        rw [show i * 3 + 3 = (i + 1) * 3 by omega, show n * 3 + 3 = (n + 1) * 3 by omega] at hs
        refine ⟨_, _, rfl, ⟨?_, .inr ⟨g, cap, _, rfl, hbg, h2.out, hroom, hcm, ?_, by simpa using hs⟩⟩, h3⟩
        · simp only [List.length_append, List.length_take, List.length_drop, hcs, hxl]; omega
        · rw [List.size_toArray, length_splice _ _ _ (by rw [hcs, length_splice _ _ _ (by rw [List.length_drop, hxl, hcl]; omega), hcl]; omega), length_splice _ _ _ (by rw [List.length_drop, hxl, hcl]; omega), hcl]
      · refine (grow g n cap i cur.toList xs cs vb w hg' hcl htake (by omega) (by omega) hnc hn hcs hvb h1 h1x).mono ?_
        rintro e w' ⟨G, row, hGn, hG63, hRl, hRt, rfl, h2, h3⟩
        have hs := splice_grow row xs cs (i * 3) 3 (n * 3) hRt hcs (by omega) (by omega) (by omega)
        rw [show i * 3 + 3 = (i + 1) * 3 by omega, show n * 3 + 3 = (n + 1) * 3 by omega] at hs
        refine ⟨_, _, rfl, ⟨?_, .inr ⟨w.heap.size, G, _, rfl, hbase, h2.out, hGn, by unfold maxLen; omega, ?_, by simpa using hs⟩⟩, ⟨h3.os, h3.tape, h3.output, h3.size, fun k hk _ => h3.block k hk (by simp)⟩⟩
        · simp only [List.length_append, List.length_take, List.length_drop, hcs, hxl]; omega
        · rw [List.size_toArray, length_splice _ _ _ (by rw [List.length_drop, hxl, length_splice _ _ _ (by rw [hcs, hRl]; omega), hRl]; omega), length_splice _ _ _ (by rw [hcs, hRl]; omega), hRl]
end InsTrk
end Go.Proofs.Yteeglmlmconbmaa
