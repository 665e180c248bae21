/- slices.Delete at elements of 2 cells, on a row that the call owns: some elements fewer, in the same memory. Conditions: few elements. -/
import Derived.Test.YtnomghcieomjmaaRow
namespace Go.Proofs.Ytnomghcieomjmaa
open Go.RowKit
namespace DelWt
theorem infoE : (Try.prog.info? 72).map (fun i => (i.zero, i.size, i.bytes)) = some (some (.agg #[.int .i64 0, .int .i64 0]), 2, 16) := by kernel_rfl
theorem clear_row {P : Program} (w : World) (t e ty : TypeId) (i : TypeInfo) (z : Value) (size : Nat) (ht : P.underlying t = some (.slice e)) (hi : P.info? e = some i) (hz : i.zero = some z)
    (hzs : z.cells.size = size) (hsz : 0 < size) (hzo : ∀ k, k < size → (z.cells[k]!).oneCell' = true) (b o n c : Nat) (hn : 0 < n)
    (hc : ∀ j, j < n * size → (w.cell? ⟨b, o + j, none⟩).isSome = true) (hf : ∀ j, j < n * size → w.frozen? ⟨b, o + j, none⟩ = false) :
    ∃ zs : List Value, zs.length = n * size ∧ (Builtin.clear_ #[t] ty #[.slice (some ⟨b, o, none⟩) n c]).run P w = .ok (.tuple #[]) (w.setCells b o zs) := by
  have hl : (Builtin.zeroCells z.cells n).toList.length = n * size := by simp [Builtin.zeroCells, hzs]
  refine ⟨(Builtin.zeroCells z.cells n).toList, hl, ?_⟩
  have hst := run_storeCells_cells (P := P) b o (Builtin.zeroCells z.cells n).toList 0 w (by rw [hl]; simpa using hc) (by rw [hl]; simpa using hf) (by
    intro v hv
    simp only [Builtin.zeroCells, Array.mem_toList_iff, Array.mem_map] at hv
    obtain ⟨k, _, rfl⟩ := hv
    exact hzo _ (by rw [hzs]; exact Nat.mod_lt _ hsz))
  simp only [Nat.add_zero] at hst
  obtain ⟨m, rfl⟩ : ∃ m, n = m + 1 := ⟨n - 1, by omega⟩
  simp [Builtin.clear_, run_underlying ht, zeroValue, typeInfo, hi, hz, hst]

set_option maxRecDepth 20000 in
set_option maxHeartbeats 1000000 in
theorem any (g off n cap i j base : Nat) (xs : List Value) (w : World) (hrow : Row w base 2 (some ⟨g, off, none⟩) n cap xs) (hij : i < j) (hj : j ≤ n) (hn : n ≤ 1000000) (hm : cap ≤ 9223372036854775807) (h1 : ∀ u ∈ xs, u.oneCell' = true) :
    Calls Try.prog 36 #[.slice (some ⟨g, off, none⟩) n cap, .int .i64 i, .int .i64 j] w fun e w' => e = .returned (.slice (some ⟨g, off, none⟩) (n - (j - i)) cap) ∧
      Row w' base 2 (some ⟨g, off, none⟩) (n - (j - i)) cap (xs.take (i * 2) ++ xs.drop (j * 2)) ∧ w.grownBy w' (some g) := by
  obtain ⟨i0, hi0, hz0, hz1, hz2⟩ := info_parts infoE
  obtain ⟨g', off', eg, hg0, hg1, hcell, hroom⟩ := hrow.at_ _ rfl
  injection eg with eg eo
  subst eg eo
  have hnc := hrow.le
  have hlen := hrow.len
  obtain ⟨news, hnews⟩ : ∃ news, news = xs.drop (j * 2) := ⟨_, rfl⟩
  have hnl : news.length = (n - j) * 2 := by rw [hnews, List.length_drop, hlen]; omega
  obtain ⟨A, hA, hsrc⟩ : ∃ A : Addr, (if cap = j then some (⟨g, off, none⟩ : Addr) else some ⟨g, off + j * 2, none⟩) = some A ∧ Hid (∀ t u, news[t]? = some u → w.drew.cell? (A.add t) = some u) := by
    by_cases h : cap = j
    · refine ⟨⟨g, off, none⟩, by simp [h], fun t u hu => ?_⟩
      have h0 : news.length = 0 := by rw [hnl]; omega
      rw [List.length_eq_zero_iff.1 h0] at hu
      simp at hu
    · refine ⟨⟨g, off + j * 2, none⟩, by simp [h], fun t u hu => ?_⟩
      rw [hnews, List.getElem?_drop] at hu
      rw [Addr.add_lit, Nat.add_assoc]
      exact hcell _ _ hu
  have s1 : Hid (news.length = (n - j) * 2) := hnl
  have s2 : Hid (∀ u ∈ news, u.oneCell' = true) := fun u hu => h1 u (by rw [hnews] at hu; exact List.mem_of_mem_drop hu)
  have hin : ∀ t, t < news.length → (w.cell? ⟨g, off + i * 2 + t, none⟩).isSome = true ∧ w.frozen? ⟨g, off + i * 2 + t, none⟩ = false := fun t ht => by
    rw [Nat.add_assoc]
    exact hroom _ (by rw [hnl] at ht; omega)
  have s3 : Hid (∀ t, t < news.length → (w.drew.cell? ⟨g, off + i * 2 + t, none⟩).isSome = true ∧ w.drew.frozen? ⟨g, off + i * 2 + t, none⟩ = false) := hin
  obtain ⟨W1, hW1⟩ : ∃ W1, W1 = w.drew.setCells g (off + i * 2) news := ⟨_, rfl⟩
  have hroom1 : ∀ t, t < cap * 2 → (W1.cell? ⟨g, off + t, none⟩).isSome = true ∧ W1.frozen? ⟨g, off + t, none⟩ = false := fun t ht => by
    rw [hW1, World.frozen?_setCells]
    exact ⟨World.isSome_setCells g news _ w.drew _ (hroom t ht).1, (hroom t ht).2⟩
  obtain ⟨zs, hzl, hcl⟩ := clear_row (P := Try.prog) W1 45 72 0 i0 _ 2 Try.underlying45 hi0 hz0 rfl (by decide) (by decide) g (off + (i + (n - j)) * 2) (n - (i + (n - j))) (cap - (i + (n - j))) (by omega)
    (fun t ht => by rw [Nat.add_assoc]; exact (hroom1 _ (by omega)).1) (fun t ht => by rw [Nat.add_assoc]; exact (hroom1 _ (by omega)).2)
  have hcl' : ∀ ty, (Builtin.clear_ #[45] ty #[.slice (some ⟨g, off + (i + (n - j)) * 2, none⟩) (n - (i + (n - j))) (cap - (i + (n - j)))]).run Try.prog W1 = .ok (.tuple #[]) (W1.setCells g (off + (i + (n - j)) * 2) zs) := fun _ => hcl
  have hW : Hid (W1 = w.drew.setCells g (off + i * 2) news) := hW1
  -- what lies there in the end
  obtain ⟨W2, hW2⟩ : ∃ W2, W2 = W1.setCells g (off + (i + (n - j)) * 2) zs := ⟨_, rfl⟩
  have hend : Row W2 base 2 (some ⟨g, off, none⟩) (n - (j - i)) cap (xs.take (i * 2) ++ xs.drop (j * 2)) := by
    refine ⟨by rw [List.length_append, List.length_take, List.length_drop, hlen]; omega, by omega, (fun h => by cases h), fun ad had => ?_⟩
    injection had with had
    subst had
    refine ⟨g, off, rfl, hg0, by rw [hW2, size_setCells_, hW1, size_setCells_]; exact hg1, fun t u hu => ?_, fun t ht => ?_⟩
    · have htl := (List.getElem?_eq_some_iff.1 hu).1
      rw [List.length_append, List.length_take, List.length_drop, hlen] at htl
      rw [hW2, World.cell?_setCells_out g zs _ W1 _ (fun _ _ => .inl (by show off + t < _; omega)), hW1]
      by_cases hti : t < i * 2
      · rw [World.cell?_setCells_out g news _ w.drew _ (fun _ _ => .inl (by show off + t < _; omega))]
        rw [List.getElem?_append_left (by rw [List.length_take, hlen]; omega), List.getElem?_take_of_lt hti] at hu
        exact hcell _ _ hu
      · rw [List.getElem?_append_right (by rw [List.length_take, hlen]; omega), ← hnews, List.length_take, hlen, Nat.min_eq_left (by omega)] at hu
        have htn : t - i * 2 < news.length := (List.getElem?_eq_some_iff.1 hu).1
        have := World.cell?_setCells_in g news (off + i * 2) w.drew (fun k hk => (hin k hk).1) (t - i * 2) htn
        rw [show off + i * 2 + (t - i * 2) = off + t from by omega] at this
        rw [this]
        exact (List.getElem?_eq_getElem htn).symm.trans hu
    · rw [hW2, World.frozen?_setCells]
      exact ⟨World.isSome_setCells g zs _ W1 _ (hroom1 t ht).1, (hroom1 t ht).2⟩
  have hgr : w.grownBy W2 (some g) := by
    have h1 : w.grownBy W1 (some g) := by
      have := grown_setCells g news (off + i * 2) w.drew
      rw [← hW1] at this
      exact ⟨this.os, this.tape, this.output, this.size, this.block⟩
    have h2 := grown_setCells g zs (off + (i + (n - j)) * 2) W1
    rw [← hW2] at h2
    exact h1.trans h2
  have HE := Lib.hid hend
  have HG := Lib.hid hgr
  have HW2 := Lib.hid hW2
  have hic : i ≤ cap := by omega
  have hjc : j ≤ cap := by omega
  have hne : ¬ i = j := by omega
  clear hroom hroom1 hcell hrow hin hend hgr hW2 hW1 hnews hnl hcl h1
  go_enter Try.func36, Try.ntmps36
  go_wp2_with fail
  go_region_law (refine step_append_room rfl (.tmp 22) (.tmp 25) 45 rfl 72 i0 2 Try.underlying45 hi0 hz1 g off i cap (by simp [Act.eval, Act.put]) A (n - j) (cap - j) news (by simp [Act.eval, Act.put]) s1.out hsrc.out s2.out (by omega) s3.out ?_; rw [← hW.out])
  go_wp2
  go_ret
  refine ⟨by rw [show n - (j - i) = i + (n - j) by omega]; rfl, ?_, ?_⟩
  · rw [← HW2.out]; exact HE.out
  · rw [← HW2.out]; exact HG.out
end DelWt
end Go.Proofs.Ytnomghcieomjmaa
