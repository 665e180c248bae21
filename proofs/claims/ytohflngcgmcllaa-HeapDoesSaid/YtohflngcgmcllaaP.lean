/- What a put leaves, told without the walk. -/
import Derived.Test.YtohflngcgmcllaaB2
namespace Go.Proofs.Ytohflngcgmcllaa
open Go.RowKit

theorem own_kind {w : World} {base : Nat} {e t : TypeId} {size : Nat} {A : Option Addr} {n c k : Nat} {xs : List Value} {cs : Array Value} {fr : Nat × Nat} (h : w.ownsRow base e size (.slice A n c) n xs) (hk : w.heap[k]? = some (.cells cs t fr)) (hne : e ≠ t) : ∀ ad, A = some ad → ad.block ≠ k := by
  intro ad hA he
  subst hA
  rcases h.2 with ⟨h', _⟩ | ⟨g, cap, cur, h', _, hh, _⟩
  · cases h'
  · injection h' with h1; injection h1 with h1
    subst h1
    simp only at he
    subst he
    rw [hk] at hh
    injection hh with hh
    injection hh with _ ht
    exact hne ht.symm
theorem put_fin {base lo n q c3 c6 r : Nat} {A3 A6 : Option Addr} {l3 : List Ob} {w3 Y T Z : World} {y : Ob} {u v : Value} {cs : Array Value} {fr : Nat × Nat} (hown3 : HpOwn w3 base lo A3 n c3 l3) (h3Y : Below w3.heap.size w3 Y)
    (hy : Sl Y Y.heap.size 2 Val.cells y.A y.n y.s) (hyl : ∀ ad, y.A = some ad → w3.heap.size < ad.block) (hyn : y.n ≤ 8796093021952) (hT : Below Y.heap.size Y T) (hgr : T.grownBy Z (Value.slice A3 n c3).ownBlock) (hq : q ≤ n)
    (hown6 : Z.ownsRow base 27 2 (.slice A6 (n + 1) c6) (n + 1) ((l3.flatMap Ob.cells).take (q * 2) ++ Ob.cells y ++ (l3.flatMap Ob.cells).drop (q * 2)))
    (hk : Z.heap[w3.heap.size]? = some (.cells cs 24 fr)) (hr : r < base) (hrl : r < lo) (hbase : base ≤ w3.heap.size) :
    Hp ((Z.setCell ⟨w3.heap.size, 0, none⟩ u).setCell ⟨r, 0, none⟩ v) ((Z.setCell ⟨w3.heap.size, 0, none⟩ u).setCell ⟨r, 0, none⟩ v).heap.size A6 (n + 1) (l3.take q ++ [y] ++ l3.drop q) := by
  have hz3 := h3Y.size
  have hzT := hT.size
  have hzZ := hgr.size
  have hz : ((Z.setCell ⟨w3.heap.size, 0, none⟩ u).setCell ⟨r, 0, none⟩ v).heap.size = Z.heap.size := by simp
  have hrow : ∀ k, (Value.slice A3 n c3).ownBlock = some k → k < w3.heap.size ∧ k < lo := fun k hk' => by
    refine ⟨(own_block_lt hown3.row hk').2, ?_⟩
    cases A3 with
    | none => simp [Value.ownBlock] at hk'
    | some ad =>
      have h1 := hown3.low ad rfl
      have h2 : some ad.block = some k := by rw [← hk']; simp [Value.ownBlock]
      injection h2 with h2
      omega
  rw [flat_take Ob.size, flat_drop Ob.size] at hown6
  have h6 : Z.ownsRow base 27 2 (.slice A6 (n + 1) c6) (n + 1) ((l3.take q ++ [y] ++ l3.drop q).flatMap Ob.cells) := by simpa using hown6
  have hl6 : (l3.take q ++ [y] ++ l3.drop q).length = n + 1 := by have := hown3.len; simp; omega
  have hg1 := grown1 Z ⟨w3.heap.size, 0, none⟩ u
  have hg2 := grown1 (Z.setCell ⟨w3.heap.size, 0, none⟩ u) ⟨r, 0, none⟩ v
  have fields : ∀ o : Ob, o.n ≤ 8796093021952 → Sl Z Z.heap.size 2 Val.cells o.A o.n o.s → (0 < o.n → ∀ ad, o.A = some ad → ad.block ≠ w3.heap.size ∧ ad.block ≠ r) → Sl ((Z.setCell ⟨w3.heap.size, 0, none⟩ u).setCell ⟨r, 0, none⟩ v) Z.heap.size 2 Val.cells o.A o.n o.s ∧ o.n ≤ 8796093021952 := fun o hn hs hne =>
    ⟨(hs.apart (Nat.le_refl _) hg1 (fun h0 ad had e => (hne h0 ad had).1 (by injection e))).apart (by simp) hg2 (fun h0 ad had e => (hne h0 ad had).2 (by injection e)), hn⟩
  refine ⟨?_, fun o ho => ?_⟩
  · rw [hz]
    refine ((Sl.of_own Ob.size hl6 h6).apart (Nat.le_refl _) hg1 (fun _ ad had e => own_kind h6 hk (by decide) ad had (by injection e))).apart (by simp) hg2 (fun _ ad had e => ?_)
    have := own_lo h6 (Nat.le_refl _) ad had
    injection e with e
    simp only at e
    omega
  · rw [hz]
    have hm : o ∈ l3 ∨ o = y := by
      simp only [List.mem_append, List.mem_singleton] at ho
      rcases ho with (h | h) | h
      · exact .inl (List.mem_of_mem_take h)
      · exact .inr h
      · exact .inl (List.mem_of_mem_drop h)
    rcases hm with hm | rfl
    · have hcp := hown3.cps o hm
      have hblk : 0 < o.n → ∀ ad, o.A = some ad → lo ≤ ad.block ∧ ad.block < w3.heap.size := fun h0 ad had => by
        obtain ⟨f, hf, hlo, _⟩ := hcp.own h0
        obtain ⟨ab, ao, e, hlt, _⟩ := hcp.sl.at_ h0
        rw [had] at hf e
        injection hf with hf; injection e with e
        subst hf
        injection e with e1 e2
        subst e1
        exact ⟨hlo, hlt⟩
      refine fields o (hown3.few o hm) ?_ (fun h0 ad had => by have := hblk h0 ad had; omega)
      have h1 := ((hcp.sl.up h3Y).up hT)
      refine (h1.apart (Nat.le_refl _) hgr (fun h0 ad had e => ?_)).mono hzZ
      have := (hrow _ e.symm).2
      have := (hblk h0 ad had).1
      omega
    · refine fields _ hyn ?_ (fun h0 ad had => ?_)
      · refine ((hy.up hT).apart (Nat.le_refl _) hgr (fun h0 ad had e => ?_)).mono hzZ
        have := (hrow _ e.symm).1
        have := hyl ad had
        omega
      · have h1 := hyl ad had
        omega
theorem set_fin {base lo n i c3 g r : Nat} {l3 : List Ob} {w3 Y : World} {y : Ob} {u v x : Value} (hown3 : HpOwn w3 base lo (some ⟨g, 0, none⟩) n c3 l3) (h3Y : Below w3.heap.size w3 Y)
    (hy : Sl Y Y.heap.size 2 Val.cells y.A y.n y.s) (hyl : ∀ ad, y.A = some ad → w3.heap.size ≤ ad.block) (hyn : y.n ≤ 8796093021952) (hi : i < n) (hc : Ob.cells y = [u, v])
    (hr : r < base) (hrl : r < lo) (hbase : base ≤ w3.heap.size) (hg : base ≤ g) (hg3 : g < w3.heap.size) :
    Hp (((Y.setCell ⟨g, i * 2, none⟩ u).setCell ⟨g, i * 2 + 1, none⟩ v).setCell ⟨r, 0, none⟩ x) (((Y.setCell ⟨g, i * 2, none⟩ u).setCell ⟨g, i * 2 + 1, none⟩ v).setCell ⟨r, 0, none⟩ x).heap.size (some ⟨g, 0, none⟩) n (l3.set i y) := by
  have hz3 := h3Y.size
  have hz : (((Y.setCell ⟨g, i * 2, none⟩ u).setCell ⟨g, i * 2 + 1, none⟩ v).setCell ⟨r, 0, none⟩ x).heap.size = Y.heap.size := by simp
  have hgl : g < lo := hown3.low _ rfl
  have hrow := own_put2 Ob.size (own_below hown3.row h3Y) hown3.len hi y u v hc
  have hg1 := grown2 Y g (i * 2) (i * 2 + 1) u v
  have hg2 := grown1 ((Y.setCell ⟨g, i * 2, none⟩ u).setCell ⟨g, i * 2 + 1, none⟩ v) ⟨r, 0, none⟩ x
  have fields : ∀ o : Ob, o.n ≤ 8796093021952 → Sl Y Y.heap.size 2 Val.cells o.A o.n o.s → (0 < o.n → ∀ ad, o.A = some ad → ad.block ≠ g ∧ ad.block ≠ r) → Sl (((Y.setCell ⟨g, i * 2, none⟩ u).setCell ⟨g, i * 2 + 1, none⟩ v).setCell ⟨r, 0, none⟩ x) Y.heap.size 2 Val.cells o.A o.n o.s ∧ o.n ≤ 8796093021952 := fun o hn hs hne =>
    ⟨(hs.apart (Nat.le_refl _) hg1 (fun h0 ad had e => (hne h0 ad had).1 (by injection e))).apart (by simp) hg2 (fun h0 ad had e => (hne h0 ad had).2 (by injection e)), hn⟩
  rw [hz]
  refine ⟨((Sl.of_own Ob.size (by rw [List.length_set]; exact hown3.len) hrow).apart (Nat.le_refl _) hg2 (fun _ ad had e => ?_)).mono (by simp), fun o ho => ?_⟩
  · injection had with had
    subst had
    injection e with e
    simp only at e
    omega
  · rcases List.mem_or_eq_of_mem_set ho with hm | rfl
    · have hcp := hown3.cps o hm
      refine fields o (hown3.few o hm) (hcp.sl.up h3Y) (fun h0 ad had => ?_)
      obtain ⟨f, hf, hlo, _⟩ := hcp.own h0
      rw [had] at hf; injection hf with hf; subst hf
      constructor
      · show f ≠ g; omega
      · show f ≠ r; omega
    · refine fields _ hyn hy (fun h0 ad had => ?_)
      have := hyl ad had
      omega
theorem set_cells {α : Type} {cells : α → List Value} {x y : α} (h : cells y = cells x) : ∀ {l : List α} {i : Nat}, l[i]? = some x → (l.set i y).flatMap cells = l.flatMap cells
  | [], i, hx => by simp at hx
  | z :: l, 0, hx => by simp at hx; subst hx; simp [h]
  | z :: l, i + 1, hx => by
    have := set_cells h (l := l) (i := i) (by simpa using hx)
    simp [List.flatMap_cons, this]
theorem write_fin {base lo n i j c3 f r : Nat} {A3 : Option Addr} {l3 : List Ob} {w3 Y : World} {x : Ob} {v : Val} {u : Value} (hown3 : HpOwn w3 base lo A3 n c3 l3) (h3Y : Below w3.heap.size w3 Y)
    (hx : l3[i]? = some x) (hf : x.A = some ⟨f, 0, none⟩) (hj : j < x.n) (hr : r < base) (hrl : r < lo) (hbase : base ≤ w3.heap.size) :
    Hp (((Y.setCell ⟨f, j * 2, none⟩ (.bool v.ref)).setCell ⟨f, j * 2 + 1, none⟩ (.int .i64 v.n)).setCell ⟨r, 0, none⟩ u) (((Y.setCell ⟨f, j * 2, none⟩ (.bool v.ref)).setCell ⟨f, j * 2 + 1, none⟩ (.int .i64 v.n)).setCell ⟨r, 0, none⟩ u).heap.size A3 n (l3.set i ⟨x.id, x.A, x.n, x.c, x.s.set j v⟩) := by
  have hz3 := h3Y.size
  have hz : (((Y.setCell ⟨f, j * 2, none⟩ (.bool v.ref)).setCell ⟨f, j * 2 + 1, none⟩ (.int .i64 v.n)).setCell ⟨r, 0, none⟩ u).heap.size = Y.heap.size := by simp
  have hg1 := grown2 Y f (j * 2) (j * 2 + 1) (.bool v.ref) (.int .i64 v.n)
  have hg2 := grown1 ((Y.setCell ⟨f, j * 2, none⟩ (.bool v.ref)).setCell ⟨f, j * 2 + 1, none⟩ (.int .i64 v.n)) ⟨r, 0, none⟩ u
  have hxm := hown3.cps x (List.mem_of_getElem? hx)
  obtain ⟨f', hf', hlo, _⟩ := hxm.own (by omega)
  rw [hf] at hf'; injection hf' with hf'; injection hf' with hf'
  subst hf'
  rw [hz]
  have hrow : (l3.set i ⟨x.id, x.A, x.n, x.c, x.s.set j v⟩).flatMap Ob.cells = l3.flatMap Ob.cells := set_cells (x := x) (y := ⟨x.id, x.A, x.n, x.c, x.s.set j v⟩) rfl hx
  refine ⟨?_, fun o ho => ?_⟩
  · have h3 : w3.ownsRow base 27 2 (.slice A3 n c3) n ((l3.set i ⟨x.id, x.A, x.n, x.c, x.s.set j v⟩).flatMap Ob.cells) := by rw [hrow]; exact hown3.row
    refine (((Sl.of_own Ob.size (by rw [List.length_set]; exact hown3.len) h3).up h3Y).apart (Nat.le_refl _) hg1 (fun _ ad had e => ?_)).apart (by simp) hg2 (fun _ ad had e => ?_)
    · have := hown3.low ad had; injection e with e; omega
    · have := own_lo hown3.row (Nat.le_refl _) ad had; injection e with e; simp only at e; omega
  · obtain ⟨k, hk⟩ := List.getElem?_of_mem ho
    rw [List.getElem?_set] at hk
    by_cases hik : i = k
    · rw [if_pos hik, if_pos (by have := (List.getElem?_eq_some_iff.1 hx).1; exact this)] at hk
      injection hk with hk
      subst hk
      have hs : Sl Y Y.heap.size 2 Val.cells (some ⟨f, 0, none⟩) x.n x.s := by have := hxm.sl.up h3Y; rwa [hf] at this
      have h2 := hs.put2 Val.size hj v (u := .bool v.ref) (v := .int .i64 v.n) rfl ⟨f, j * 2, none⟩ ⟨f, j * 2 + 1, none⟩ (by rw [Nat.zero_add]) (by rw [Nat.zero_add])
      refine ⟨?_, hown3.few x (List.mem_of_getElem? hx)⟩
      show Sl _ _ 2 Val.cells x.A x.n (x.s.set j v)
      rw [hf]
      exact h2.apart (by simp) hg2 (fun _ ad had e => by injection had with had; subst had; injection e with e; simp only at e; omega)
    · rw [if_neg hik] at hk
      have hcp := hown3.cps o (List.mem_of_getElem? hk)
      refine ⟨((hcp.sl.up h3Y).apart (Nat.le_refl _) hg1 (fun h0 ad had e => ?_)).apart (by simp) hg2 (fun h0 ad had e => ?_), hown3.few o (List.mem_of_getElem? hk)⟩
      · injection e with e
        have hkn : k < n := by rw [← hown3.len]; exact (List.getElem?_eq_some_iff.1 hk).1
        have hin : i < n := by rw [← hown3.len]; exact (List.getElem?_eq_some_iff.1 hx).1
        rcases Nat.lt_or_ge i k with h | h
        · exact hown3.dist i k x o h hkn hx hk (by omega) h0 _ _ hf had (by show f = _; omega)
        · exact hown3.dist k i o x (by omega) hin hk hx h0 (by omega) _ _ had hf (by show _ = f; omega)
      · obtain ⟨f2, hf2, hlo2, _⟩ := hcp.own h0
        rw [had] at hf2; injection hf2 with hf2; subst hf2
        injection e with e; simp only at e; omega
end Go.Proofs.Ytohflngcgmcllaa
