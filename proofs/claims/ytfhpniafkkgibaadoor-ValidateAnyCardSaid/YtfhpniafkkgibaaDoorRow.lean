/- Slices at any place of an array that the call owns: cut, written and grown. Conditions: as each lemma states. -/
import Derived.Test.YtfhpniafkkgibaaDoorKit2
import Derived.Laws.IdiomCopy
import Derived.Deep.MidRow
namespace Go.Proofs.YtfhpniafkkgibaaDoor
open Go.RowKit

/-- A slice of elements of sz cells in memory at or above block base; its room may be written. -/
structure Row (w : World) (base sz : Nat) (A : Option Addr) (n cap : Nat) (xs : List Value) : Prop where
  len : xs.length = n * sz
  le : n ≤ cap
  nul : A = none → cap = 0
  at_ : ∀ ad, A = some ad → ∃ g off, ad = ⟨g, off, none⟩ ∧ base ≤ g ∧ g < w.heap.size ∧ (∀ j u, xs[j]? = some u → w.cell? ⟨g, off + j, none⟩ = some u) ∧
    (∀ j, j < cap * sz → (w.cell? ⟨g, off + j, none⟩).isSome = true ∧ w.frozen? ⟨g, off + j, none⟩ = false)

def blkOf : Option Addr → Option Nat
  | some ad => some ad.block
  | none => none

section
variable {w w' : World} {base sz n cap : Nat} {A : Option Addr} {xs : List Value}
theorem Row.nil : Row w base sz none 0 0 [] := ⟨by simp, Nat.le_refl _, fun _ => rfl, fun _ h => by cases h⟩
theorem Row.of_own {e : TypeId} {c : Nat} (h : w.ownsRow base e sz (.slice A n c) n xs) : Row w base sz A n c xs := by
  rcases h.2 with ⟨h', h0⟩ | ⟨g, cap, cur, h', hbg, hg, hnc, hcm, hcs, htake⟩
  · injection h' with h1 h2 h3
    subst h1 h3
    exact ⟨h.1, by omega, fun _ => rfl, fun _ h => by cases h⟩
  · injection h' with h1 h2 h3
    subst h1 h3
    refine ⟨h.1, hnc, (fun h => by cases h), fun ad had => ?_⟩
    injection had with had
    subst had
    have hgs : g < w.heap.size := by
      rcases Nat.lt_or_ge g w.heap.size with h2 | h2
      · exact h2
      · rw [Array.getElem?_eq_none h2] at hg; cases hg
    refine ⟨g, 0, rfl, hbg, hgs, fun j u hu => ?_, fun j hj => ?_⟩
    · have := h.cells (g := g) rfl j u hu; rwa [Addr.add_lit] at this
    · refine ⟨?_, h.frozenAt _⟩
      have hc : w.cell? ⟨g, 0 + j, none⟩ = cur[j]? := by rw [Nat.zero_add]; simp [World.cell?, hg]
      rw [hc, Array.getElem?_eq_getElem (by rw [hcs]; exact hj)]; rfl
theorem Row.block (h : Row w base sz A n cap xs) {k : Nat} (hk : blkOf A = some k) : base ≤ k ∧ k < w.heap.size := by
  cases A with
  | none => cases hk
  | some ad =>
    obtain ⟨g, off, rfl, h1, h2, _⟩ := h.at_ _ rfl
    injection hk with hk
    subst hk
    exact ⟨h1, h2⟩
/-- Memory turned, but not the slice's own block. -/
theorem Row.kept {row : Option Nat} (h : Row w base sz A n cap xs) (hg : w.grownBy w' row) (hne : ∀ k, blkOf A = some k → row ≠ some k) : Row w' base sz A n cap xs := by
  refine ⟨h.len, h.le, h.nul, fun ad had => ?_⟩
  obtain ⟨g, off, rfl, h1, h2, h3, h4⟩ := h.at_ _ had
  have hg' : (some g : Option Nat) ≠ row := fun e => hne g (by rw [had]; rfl) e.symm
  refine ⟨g, off, rfl, h1, by have := hg.size; omega, fun j u hu => ((gcell hg).1 g _ h2 hg').trans (h3 j u hu), fun j hj => ?_⟩
  rw [(gcell hg).1 g _ h2 hg', (gcell hg).2 g _ h2 hg']
  exact h4 j hj
theorem Row.below (h : Row w base sz A n cap xs) (hb : Below w.heap.size w w') : Row w' base sz A n cap xs := h.kept (grown_of_below hb none) (fun _ _ h => by cases h)
theorem Row.mono {base' : Nat} (h : Row w base sz A n cap xs) (hb : base' ≤ base) : Row w base' sz A n cap xs :=
  ⟨h.len, h.le, h.nul, fun ad had => by obtain ⟨g, off, e, h1, h2⟩ := h.at_ _ had; exact ⟨g, off, e, by omega, h2⟩⟩
theorem Row.setOther (h : Row w base sz A n cap xs) {p : Addr} (hne : ∀ k, blkOf A = some k → k ≠ p.block) (u : Value) : Row (w.setCell p u) base sz A n cap xs :=
  h.kept (row := some p.block) ⟨rfl, rfl, rfl, by simp, fun k hk hkr => Below.heap_setCell w p u k (fun e => hkr (by rw [e]))⟩ (fun k hk e => hne k hk (by injection e with e; exact e.symm))
/-- It reads as records. -/
theorem Row.sl {α : Type} {cells : α → List Value} {l : List α} (hsz : ∀ x, (cells x).length = sz) (hl : l.length = n) (h : Row w base sz A n cap (l.flatMap cells)) : Sl w w.heap.size sz cells A n l := by
  refine ⟨hl, fun hn => ?_⟩
  cases A with
  | none => have := h.nul rfl; have := h.le; omega
  | some ad =>
    obtain ⟨g, off, rfl, h1, h2, h3, _⟩ := h.at_ _ rfl
    exact ⟨g, off, rfl, h2, fun i x hx j u hu => h3 _ u (flat_get hsz l i x hx j u hu)⟩
/-- The first k elements. -/
theorem Row.take (h : Row w base sz A n cap xs) {k : Nat} (hk : k ≤ n) : Row w base sz A k cap (xs.take (k * sz)) := by
  have hle : k * sz ≤ n * sz := Nat.mul_le_mul_right _ hk
  refine ⟨by rw [List.length_take, h.len]; omega, by have := h.le; omega, h.nul, fun ad had => ?_⟩
  obtain ⟨g, off, rfl, h1, h2, h3, h4⟩ := h.at_ _ had
  refine ⟨g, off, rfl, h1, h2, fun j u hu => ?_, h4⟩
  rw [List.getElem?_take] at hu
  split at hu
  · exact h3 j u hu
  · cases hu
/-- The elements behind the first k, as Go cuts them. -/
theorem Row.drop {g off : Nat} (h : Row w base sz (some ⟨g, off, none⟩) n cap xs) {k : Nat} (hk : k ≤ n) : Row w base sz (some ⟨g, off + k * sz, none⟩) (n - k) (cap - k) (xs.drop (k * sz)) := by
  have e1 : (n - k) * sz = n * sz - k * sz := Nat.sub_mul ..
  have e2 : (cap - k) * sz = cap * sz - k * sz := Nat.sub_mul ..
  refine ⟨by rw [List.length_drop, h.len, e1], by have := h.le; omega, (fun h => by cases h), fun ad had => ?_⟩
  obtain ⟨g', off', e, h1, h2, h3, h4⟩ := h.at_ _ rfl
  injection e with eg eo
  subst eg eo
  injection had with had
  subst had
  refine ⟨g, off + k * sz, rfl, h1, h2, fun j u hu => ?_, fun j hj => ?_⟩
  · rw [List.getElem?_drop] at hu
    rw [Nat.add_assoc]
    exact h3 _ u hu
  · rw [Nat.add_assoc]
    exact h4 _ (by omega)
theorem Row.dropAll {g off : Nat} (h : Row w base sz (some ⟨g, off, none⟩) n cap xs) : Row w base sz (some ⟨g, off, none⟩) 0 0 [] := by
  refine ⟨by simp, Nat.le_refl _, (fun h => by cases h), fun ad had => ?_⟩
  obtain ⟨g', off', e, h1, h2, _⟩ := h.at_ _ had
  exact ⟨g', off', e, h1, h2, fun j u hu => by simp at hu, fun j hj => by omega⟩
/-- One cell is set. -/
theorem Row.set {g off : Nat} (h : Row w base sz (some ⟨g, off, none⟩) n cap xs) {j : Nat} (hj : j < n * sz) (u : Value) : Row (w.setCell ⟨g, off + j, none⟩ u) base sz (some ⟨g, off, none⟩) n cap (xs.set j u) := by
  refine ⟨by rw [List.length_set]; exact h.len, h.le, h.nul, fun ad had => ?_⟩
  obtain ⟨g', off', e, h1, h2, h3, h4⟩ := h.at_ _ rfl
  injection e with eg eo
  subst eg eo
  injection had with had
  subst had
  have hold : (w.cell? ⟨g, off + j, none⟩).isSome = true := by
    rw [h3 j _ (List.getElem?_eq_getElem (by rw [h.len]; exact hj))]; rfl
  obtain ⟨v, hv⟩ := Option.isSome_iff_exists.1 hold
  refine ⟨g, off, rfl, h1, by simpa using h2, fun i x hx => ?_, fun i hi => ?_⟩
  · rw [List.getElem?_set] at hx
    by_cases hij : j = i
    · subst hij
      rw [if_pos rfl, if_pos (by rw [h.len]; exact hj)] at hx
      injection hx with hx
      subst hx
      exact World.cell?_setCell_same _ _ _ hv
    · rw [if_neg hij] at hx
      rw [set_other _ _ _ _ (by intro e; injection e with e1 e2; omega)]
      exact h3 i x hx
  · rw [World.frozen?_setCell]
    refine ⟨?_, (h4 i hi).2⟩
    rw [set_get _ _ _ _ _ hv]
    split
    · rfl
    · exact (h4 i hi).1
end

theorem grown_setCells (g : Nat) : ∀ (vs : List Value) (o : Nat) (w : World), w.grownBy (w.setCells g o vs) (some g)
  | [], _, _ => World.grownBy.refl _ _
  | v :: vs, o, w => by
    rw [World.setCells]
    have h1 : w.grownBy (w.setCell ⟨g, o, none⟩ v) (some g) := ⟨rfl, rfl, rfl, by simp, fun k hk hkr => Below.heap_setCell w ⟨g, o, none⟩ v k (fun e => hkr (by rw [e]))⟩
    exact h1.trans (grown_setCells g vs (o + 1) _)
theorem size_setCells_ (g : Nat) : ∀ (vs : List Value) (o : Nat) (w : World), (w.setCells g o vs).heap.size = w.heap.size
  | [], _, _ => rfl
  | v :: r, o, w => by rw [World.setCells, size_setCells_ g r]; simp
/-- append to such a slice, whatever the source. -/
theorem run_append_row {P : Program} (w : World) (base : Nat) (t ty e : TypeId) (i : TypeInfo) (z : Value) (size bytes : Nat) (ht : P.underlying t = some (.slice e)) (hi : P.info? e = some i) (hz : i.zero = some z)
    (hsize : i.size = size) (hby : i.bytes = bytes) (hzs : z.cells.size = size) (hsz : 0 < size)
    (A : Option Addr) (n cap : Nat) (xs : List Value) (hrow : Row w base size A n cap xs)
    (xo : Option Addr) (m c : Nat) (news : List Value) (hxo : xo = none → m = 0) (hl : news.length = m * size) (hnews : ∀ ad, xo = some ad → ∀ (j : Nat) (u : Value), news[j]? = some u → w.cell? (ad.add j) = some u) (h1 : ∀ u ∈ news, u.oneCell' = true)
    (h63 : n + m ≤ maxLen) (hbytes : (n + m) * bytes ≤ 140737488355328) (hbase : base ≤ w.heap.size) :
    ∃ A' c' w', (Builtin.append_ #[t, t] ty #[.slice A n cap, .slice xo m c]).run P w = .ok (.slice A' (n + m) c') w' ∧ Row w' base size A' (n + m) c' (xs ++ news) ∧ w.grownBy w' (blkOf A) ∧
      (∀ g, blkOf A' = some g → blkOf A = some g ∨ w.heap.size ≤ g) := by
  rcases Nat.eq_zero_or_pos m with rfl | hm
  · obtain rfl : news = [] := List.eq_nil_of_length_eq_zero (by simpa using hl)
    rw [List.append_nil, Nat.add_zero]
    exact ⟨A, cap, w, run_append_zero w t ty e i ht hi A n cap hrow.le xo c, hrow, World.grownBy.refl _ _, fun g hg => .inl hg⟩
  · cases xo with
    | none => exact absurd (hxo rfl) (by omega)
    | some ad =>
      by_cases hroom : n + m ≤ cap
      · cases A with
        | none => have := hrow.nul rfl; omega
        | some p =>
          obtain ⟨g, off, rfl, h2, h3, h4, h5⟩ := hrow.at_ _ rfl
          have hle : (n + m) * size ≤ cap * size := Nat.mul_le_mul_right _ hroom
          have he : (n + m) * size = n * size + m * size := Nat.add_mul ..
          have hin : ∀ j, j < news.length → (w.cell? ⟨g, off + n * size + j, none⟩).isSome = true ∧ w.frozen? ⟨g, off + n * size + j, none⟩ = false := fun j hj => by
            rw [Nat.add_assoc]; exact h5 _ (by omega)
          subst hsize
          have hrun := run_append_room_cells (P := P) w t ty e i ht hi g off n cap ad m c news hl (hnews ad rfl) h1 hroom (fun j hj => (hin j hj).1) (fun j hj => (hin j hj).2)
          refine ⟨_, _, _, hrun, ⟨by rw [List.length_append, hrow.len, hl, he], hroom, (fun h => by cases h), fun p' hp' => ?_⟩, ?_, fun k hk => .inl hk⟩
          · injection hp' with hp'
            subst hp'
            refine ⟨g, off, rfl, h2, by rw [size_setCells_]; exact h3, fun j u hu => ?_, fun j hj => ?_⟩
            · by_cases hjx : j < xs.length
              · rw [List.getElem?_append_left hjx] at hu
                rw [World.cell?_setCells_out g news _ w _ (fun _ _ => .inl (by show off + j < _; have := hrow.len; omega))]
                exact h4 j u hu
              · rw [List.getElem?_append_right (by omega)] at hu
                have hjl : j - xs.length < news.length := (List.getElem?_eq_some_iff.1 hu).1
                have := World.cell?_setCells_in g news (off + n * i.size) w (fun j hj => (hin j hj).1) (j - xs.length) hjl
                have hoff : off + n * i.size + (j - xs.length) = off + j := by have := hrow.len; omega
                rw [hoff] at this
                rw [this]
                exact (List.getElem?_eq_getElem hjl).symm.trans hu
            · rw [World.frozen?_setCells]
              exact ⟨World.isSome_setCells g news _ w _ (h5 j hj).1, (h5 j hj).2⟩
          · exact grown_setCells g news _ w
      · obtain ⟨v', w', hr, ho, hg⟩ : ∃ v' w', (Builtin.append_ #[t, t] ty #[.slice A n cap, .slice (some ad) m c]).run P w = .ok v' w' ∧ w'.ownsRow w.heap.size e size v' (n + m) (xs ++ news) ∧ w.grownBy w' none := by
          cases A with
          | some b => exact run_append_arg_grows (P := P) w t ty e i z size bytes ht hi hz hsize hby hzs hsz b n cap xs hrow.len (fun j u hu => by obtain ⟨g, off, rfl, _, _, h4, _⟩ := hrow.at_ _ rfl; rw [Addr.add_lit]; exact h4 j u hu) ad m c news hl (hnews ad rfl) (by omega) h63 hbytes
          | none =>
            have hc0 := hrow.nul rfl
            have hle := hrow.le
            obtain rfl : n = 0 := by omega
            subst hc0
            obtain rfl : xs = [] := List.eq_nil_of_length_eq_zero (by simpa using hrow.len)
            obtain ⟨v', w', hrun, r1, r2, _⟩ := run_append_own (P := P) w w.heap.size t ty e i z size bytes ht hi hz hsize hby hzs hsz (.slice none 0 0) 0 [] (World.ownsRow_nil w _ e size) ad m c news hl (hnews ad rfl) h1 h63 hbytes (Nat.le_refl _)
            exact ⟨v', w', hrun, r1, r2⟩
        obtain ⟨A', c', rfl⟩ := own_form ho (by omega)
        refine ⟨A', c', w', hr, (Row.of_own ho).mono hbase, ⟨hg.os, hg.tape, hg.output, hg.size, fun k hk _ => hg.block k hk (by intro h; cases h)⟩, fun g hgA => .inr ((Row.of_own ho).block hgA).1⟩

theorem wpList_append_row {P : Program} {w : World} {ops : Array Oper} {rest : List Oper} {o : Oper} {a : Act} {Q : Exit → Act → World → Prop} (hgd : o.guard = none) (s x : Operand) (t : TypeId)
    (ho : o.op = .call { callee := .builtin .append, args := #[s, x], argTypes := #[t, t] })
    (base : Nat) (e : TypeId) (i : TypeInfo) (z : Value) (size bytes : Nat) (ht : P.underlying t = some (.slice e)) (hi : P.info? e = some i) (hz : i.zero = some z)
    (hsize : i.size = size) (hby : i.bytes = bytes) (hzs : z.cells.size = size) (hsz : 0 < size)
    (A : Option Addr) (n cap : Nat) (xs : List Value) (hs : a.eval s = .slice A n cap) (hrow : Row w base size A n cap xs)
    (xo : Option Addr) (m c : Nat) (news : List Value) (hx : a.eval x = .slice xo m c) (hxo : xo = none → m = 0) (hl : news.length = m * size) (hnews : ∀ ad, xo = some ad → ∀ (j : Nat) (u : Value), news[j]? = some u → w.cell? (ad.add j) = some u) (h1 : ∀ u ∈ news, u.oneCell' = true)
    (h63 : n + m ≤ maxLen) (hbytes : (n + m) * bytes ≤ 140737488355328) (hbase : base ≤ w.heap.size)
    (h : ∀ A' c' w', Row w' base size A' (n + m) c' (xs ++ news) → w.grownBy w' (blkOf A) → (∀ g, blkOf A' = some g → blkOf A = some g ∨ w.heap.size ≤ g) → wpList P ops Q rest (a.put o.dst (.slice A' (n + m) c')) w') :
    wpList P ops Q (o :: rest) a w := by
  obtain ⟨A', c', w', hr, h1, h2, h3⟩ := run_append_row (P := P) w base t o.type e i z size bytes ht hi hz hsize hby hzs hsz A n cap xs hrow xo m c news hxo hl hnews h1 h63 hbytes hbase
  exact Lib.wpList_append_run w hgd s x t t ho _ _ hs hx _ _ hr (h A' c' w' h1 h2 h3)
theorem step_append_row {P : Program} {ops : Array Oper} {o : Oper} {a : Act} {w : World} {K : Act → World → Prop} {Q : Exit → Act → World → Prop} {E : Prop} (hgd : o.guard = none) (s x : Operand) (t : TypeId)
    (ho : o.op = .call { callee := .builtin .append, args := #[s, x], argTypes := #[t, t] })
    (base : Nat) (e : TypeId) (i : TypeInfo) (z : Value) (size bytes : Nat) (ht : P.underlying t = some (.slice e)) (hi : P.info? e = some i) (hz : i.zero = some z)
    (hsize : i.size = size) (hby : i.bytes = bytes) (hzs : z.cells.size = size) (hsz : 0 < size)
    (A : Option Addr) (n cap : Nat) (xs : List Value) (hs : a.eval s = .slice A n cap) (hrow : Row w base size A n cap xs)
    (xo : Option Addr) (m c : Nat) (news : List Value) (hx : a.eval x = .slice xo m c) (hxo : xo = none → m = 0) (hl : news.length = m * size) (hnews : ∀ ad, xo = some ad → ∀ (j : Nat) (u : Value), news[j]? = some u → w.cell? (ad.add j) = some u) (h1 : ∀ u ∈ news, u.oneCell' = true)
    (h63 : n + m ≤ maxLen) (hbytes : (n + m) * bytes ≤ 140737488355328) (hbase : base ≤ w.heap.size)
    (h : ∀ A' c' w', Row w' base size A' (n + m) c' (xs ++ news) → w.grownBy w' (blkOf A) → (∀ g, blkOf A' = some g → blkOf A = some g ∨ w.heap.size ≤ g) → K (a.put o.dst (.slice A' (n + m) c')) w') :
    if Region.wanted o (yielded ops a.tmps) = true then Oper.wp P o a w K Q else E := by
  have hw : Region.wanted o (yielded ops a.tmps) = true := by simp [Region.wanted, hgd]
  rw [if_pos hw]
  obtain ⟨A', c', w', hr, h1, h2, h3⟩ := run_append_row (P := P) w base t o.type e i z size bytes ht hi hz hsize hby hzs hsz A n cap xs hrow xo m c news hxo hl hnews h1 h63 hbytes hbase
  exact Lib.wp_append_run w s x t t ho _ _ hs hx _ _ hr (h A' c' w' h1 h2 h3)
end Go.Proofs.YtfhpniafkkgibaaDoor
