/- Small words on memory: slices that hold records, rows that the call owns, copies of elements of several cells. Conditions: as each lemma states. -/
import Derived.Test.YtfhpniafkkgibaaDoorRows
import Derived.WalkKit
import Derived.WalkSpells
import Derived.WalkLawsBesides
import Derived.Deep.QuietTactic
import Derived.BigQuiet
import Derived.Deep.Draws
import Derived.Lib.Hide
import Derived.StillTailTactics
import Derived.Deep.AppendLies
import Derived.Deep.RegionLaw
import Derived.Laws.CopyOwn
import Derived.Lib.Overlaps
import Derived.Lib.AppendZeros
import Derived.Lib.SliceRun
import Derived.Deep.RegionLawGrows
namespace Go.Proofs.YtfhpniafkkgibaaDoor
open Go.RowKit

theorem below_drewN {B : Nat} {a w : World} (h : Below B a w) (m : Nat) : Below B a (w.drewN m) := ⟨h.os, h.tape, h.output, h.size, h.block⟩
theorem bcell {W w1 : World} (hb : Below W.heap.size W w1) : (∀ b o, b < W.heap.size → w1.cell? ⟨b, o, none⟩ = W.cell? ⟨b, o, none⟩) ∧ (∀ b o, b < W.heap.size → w1.frozen? ⟨b, o, none⟩ = W.frozen? ⟨b, o, none⟩) :=
  ⟨fun b o h => hb.cell (p := ⟨b, o, none⟩) h, fun b o h => hb.frozen (p := ⟨b, o, none⟩) h⟩
theorem below_of_grown {B : Nat} {w w' : World} {row : Option Nat} (hg : w.grownBy w' row) (hB : B ≤ w.heap.size) (hr : ∀ k, row = some k → B ≤ k) : Below B w w' :=
  (Below.refl B w).grown hg hB hr

/-- A slice that holds records: read-only, below block B. -/
structure Sl {α : Type} (w : World) (B : Nat) (sz : Nat) (cells : α → List Value) (A : Option Addr) (n : Nat) (l : List α) : Prop where
  len : l.length = n
  at_ : 0 < n → ∃ ab ao, A = some ⟨ab, ao, none⟩ ∧ ab < B ∧ ∀ i x, l[i]? = some x → ∀ j u, (cells x)[j]? = some u → w.cell? ⟨ab, ao + (i * sz + j), none⟩ = some u

section
variable {α : Type} {w w' : World} {B B' sz : Nat} {cells : α → List Value} {A : Option Addr} {n : Nat} {l : List α}
theorem Sl.nil : Sl w B sz cells A 0 [] := ⟨rfl, fun h => absurd h (by omega)⟩
theorem Sl.below (h : Sl w B sz cells A n l) (hb : Below B w w') : Sl w' B sz cells A n l :=
  ⟨h.len, fun hn => by
    obtain ⟨ab, ao, e, hlt, hc⟩ := h.at_ hn
    exact ⟨ab, ao, e, hlt, fun i x hx j u hu => (hb.cell (p := ⟨ab, _, none⟩) hlt).trans (hc i x hx j u hu)⟩⟩
theorem Sl.mono (h : Sl w B sz cells A n l) (hB : B ≤ B') : Sl w B' sz cells A n l :=
  ⟨h.len, fun hn => by
    obtain ⟨ab, ao, e, hlt, hc⟩ := h.at_ hn
    exact ⟨ab, ao, e, by omega, hc⟩⟩
theorem Sl.set (h : Sl w B sz cells A n l) {p : Addr} (hp : ∀ ad, A = some ad → ad.block ≠ p.block) (u : Value) : Sl (w.setCell p u) B sz cells A n l :=
  ⟨h.len, fun hn => by
    obtain ⟨ab, ao, e, hlt, hc⟩ := h.at_ hn
    refine ⟨ab, ao, e, hlt, fun i x hx j u hu => (World.cell?_setCell_other w p _ _ (fun e2 => hp _ e (by rw [e2]))).trans (hc i x hx j u hu)⟩⟩
theorem Sl.up (h : Sl w w.heap.size sz cells A n l) (hb : Below w.heap.size w w') : Sl w' w'.heap.size sz cells A n l := (h.below hb).mono hb.size

theorem flat_get (hsz : ∀ x, (cells x).length = sz) : ∀ (l : List α) (i : Nat) (x : α), l[i]? = some x → ∀ j u, (cells x)[j]? = some u → (l.flatMap cells)[i * sz + j]? = some u
  | [], i, x, h, _, _, _ => by simp at h
  | y :: l, 0, x, h, j, u, hu => by
    simp at h; subst h
    have hj : j < (cells y).length := (List.getElem?_eq_some_iff.1 hu).1
    rw [Nat.zero_mul, Nat.zero_add, List.flatMap_cons, List.getElem?_append_left hj]; exact hu
  | y :: l, i + 1, x, h, j, u, hu => by
    have ih := flat_get hsz l i x (by simpa using h) j u hu
    have e : (i + 1) * sz + j = (cells y).length + (i * sz + j) := by rw [hsz, Nat.add_mul]; omega
    rw [e, List.flatMap_cons, List.getElem?_append_right (by omega)]
    simpa using ih
theorem flat_len (hsz : ∀ x, (cells x).length = sz) : ∀ (l : List α), (l.flatMap cells).length = l.length * sz
  | [] => by simp
  | y :: l => by rw [List.flatMap_cons, List.length_append, flat_len hsz l, hsz, List.length_cons, Nat.add_mul]; omega
theorem flat_take (hsz : ∀ x, (cells x).length = sz) : ∀ (l : List α) (k : Nat), (l.flatMap cells).take (k * sz) = (l.take k).flatMap cells
  | [], k => by simp
  | y :: l, 0 => by simp
  | y :: l, k + 1 => by
    have e : (k + 1) * sz = (cells y).length + k * sz := by rw [hsz, Nat.add_mul]; omega
    rw [List.flatMap_cons, e, List.take_length_add_append, flat_take hsz l k, List.take_succ_cons, List.flatMap_cons]
theorem flat_drop (hsz : ∀ x, (cells x).length = sz) : ∀ (l : List α) (k : Nat), (l.flatMap cells).drop (k * sz) = (l.drop k).flatMap cells
  | [], k => by simp
  | y :: l, 0 => by simp
  | y :: l, k + 1 => by
    have e : (k + 1) * sz = (cells y).length + k * sz := by rw [hsz, Nat.add_mul]; omega
    rw [List.flatMap_cons, e, List.drop_length_add_append, flat_drop hsz l k, List.drop_succ_cons]

/-- What the call owns reads as records. -/
theorem Sl.of_own {base : Nat} {e : TypeId} {c : Nat} (hsz : ∀ x, (cells x).length = sz) (hl : l.length = n) (h : w.ownsRow base e sz (.slice A n c) n (l.flatMap cells)) : Sl w w.heap.size sz cells A n l := by
  refine ⟨hl, fun hn => ?_⟩
  obtain ⟨g, cap, hv, _, hlt⟩ := h.form hn
  have hA : A = some ⟨g, 0, none⟩ := by injection hv
  subst hA
  refine ⟨g, 0, rfl, hlt, fun i x hx j u hu => ?_⟩
  have := h.cells (g := g) rfl (i * sz + j) u (flat_get hsz l i x hx j u hu)
  unfold Addr.add at this
  split at this
  · rename_i h0; rw [h0]; exact this
  · simpa using this
end


/- copy: elements of whatever size, into a row that is known whole. -/
theorem run_copy_N {P : Program} (w : World) (dT sT ty elem : TypeId) (sz : Nat) (g o dLen dCap : Nat) (a : Addr) (sLen sCap : Nat) (cur : Array Value) (t : TypeId) (cs : List Value)
    (hu : P.underlying dT = some (.slice elem)) (hs : (P.info? elem).map (·.size) = some sz)
    (hg : w.heap[g]? = some (.cells cur t (0, 0))) (hn : cs.length = Nat.min sLen dLen * sz)
    (hsrc : ∀ j v, cs[j]? = some v → w.cell? (a.add j) = some v) (hfit : o + cs.length ≤ cur.size) (h1 : ∀ v ∈ cs, v.oneCell' = true) :
    (Builtin.copy_ #[dT, sT] ty #[.slice (some ⟨g, o, none⟩) dLen dCap, .slice (some a) sLen sCap]).run P w =
      .ok (goInt (Nat.min sLen dLen)) (w.setRow g (cur.toList.take o ++ cs ++ cur.toList.drop (o + cs.length)).toArray) := by
  have hl := run_loadCells_list (P := P) w a cs hsrc
  have hst := run_storeCells_at P g o t cs 0 cur w hg (by simpa using hfit) h1
  cases hq : P.info? elem with
  | none => simp [hq] at hs
  | some i =>
    have hi : i.size = sz := by simpa [hq] using hs
    simp [Builtin.copy_, run_underlying hu, Builtin.lenOf, Builtin.firstCells, sizeOf, typeInfo, hq, hi, ← hn, hl, hst]

theorem run_copy_N' {P : Program} (w : World) (dT sT ty elem : TypeId) (sz : Nat) (g o dLen dCap : Nat) (a : Addr) (sLen sCap : Nat) (cur : List Value) (t : TypeId) (cs : List Value)
    (hu : P.underlying dT = some (.slice elem)) (hs : (P.info? elem).map (·.size) = some sz)
    (hg : w.heap[g]? = some (.cells cur.toArray t (0, 0))) (hn : cs.length = Nat.min sLen dLen * sz)
    (hsrc : ∀ j v, cs[j]? = some v → w.cell? (a.add j) = some v) (hfit : o + cs.length ≤ cur.length) (h1 : ∀ v ∈ cs, v.oneCell' = true) :
    ∃ w', (Builtin.copy_ #[dT, sT] ty #[.slice (some ⟨g, o, none⟩) dLen dCap, .slice (some a) sLen sCap]).run P w = .ok (goInt (Nat.min sLen dLen)) w' ∧
      Hid (w'.heap[g]? = some (.cells (splice cur o cs).toArray t (0, 0))) ∧ w.grownBy w' (some g) := by
  refine ⟨_, run_copy_N w dT sT ty elem sz g o dLen dCap a sLen sCap cur.toArray t cs hu hs hg hn hsrc (by simpa using hfit) h1, ?_, ⟨rfl, rfl, rfl, by simp [World.setRow], fun k hk hne => setRow_other w g k _ (fun e => hne (by rw [e]))⟩⟩
  show _ = _
  simpa [splice] using setRow_heap w g _ _ t _ hg

theorem wpList_copy_N {P : Program} {w : World} {ops : Array Oper} {rest : List Oper} {o : Oper} {a : Act} {Q : Exit → Act → World → Prop} (hgd : o.guard = none) (d s : Operand) (dT sT : TypeId)
    (ho : o.op = .call { callee := .builtin .copy, args := #[d, s], argTypes := #[dT, sT] }) (elem : TypeId) (sz : Nat) (hu : P.underlying dT = some (.slice elem)) (hsz : (P.info? elem).map (·.size) = some sz)
    (g off dLen dCap : Nat) (ad : Addr) (sLen sCap : Nat) (hd : a.eval d = .slice (some ⟨g, off, none⟩) dLen dCap) (hs : a.eval s = .slice (some ad) sLen sCap)
    (cur : List Value) (t : TypeId) (hg : w.heap[g]? = some (.cells cur.toArray t (0, 0))) (cs : List Value) (hn : cs.length = Nat.min sLen dLen * sz)
    (hsrc : ∀ j v, cs[j]? = some v → w.cell? (ad.add j) = some v) (hfit : off + cs.length ≤ cur.length) (h1 : ∀ v ∈ cs, v.oneCell' = true)
    (h : ∀ w', Hid (w'.heap[g]? = some (.cells (splice cur off cs).toArray t (0, 0))) → w.grownBy w' (some g) → wpList P ops Q rest (a.put o.dst (goInt (Nat.min sLen dLen))) w') :
    wpList P ops Q (o :: rest) a w := by
  refine wpList_plain hgd fun K hK => ?_
  obtain ⟨w', hrun, h2, h3⟩ := run_copy_N' (P := P) w dT sT o.type elem sz g off dLen dCap ad sLen sCap cur t cs hu hsz hg hn hsrc hfit h1
  unfold Oper.wp
  simp [execOp, ho, resolve, invoke, builtin, hd, hs, hrun, Result.andThen]
  exact hK _ _ (h w' h2 h3)

theorem step_copy_N {P : Program} {ops : Array Oper} {o : Oper} {a : Act} {w : World} {K : Act → World → Prop} {Q : Exit → Act → World → Prop} {E : Prop} (hgd : o.guard = none) (d s : Operand) (dT sT : TypeId)
    (ho : o.op = .call { callee := .builtin .copy, args := #[d, s], argTypes := #[dT, sT] }) (elem : TypeId) (sz : Nat) (hu : P.underlying dT = some (.slice elem)) (hsz : (P.info? elem).map (·.size) = some sz)
    (g off dLen dCap : Nat) (ad : Addr) (sLen sCap : Nat) (hd : a.eval d = .slice (some ⟨g, off, none⟩) dLen dCap) (hs : a.eval s = .slice (some ad) sLen sCap)
    (cur : List Value) (t : TypeId) (hg : w.heap[g]? = some (.cells cur.toArray t (0, 0))) (cs : List Value) (hn : cs.length = Nat.min sLen dLen * sz)
    (hsrc : ∀ j v, cs[j]? = some v → w.cell? (ad.add j) = some v) (hfit : off + cs.length ≤ cur.length) (h1 : ∀ v ∈ cs, v.oneCell' = true)
    (h : ∀ w', Hid (w'.heap[g]? = some (.cells (splice cur off cs).toArray t (0, 0))) → w.grownBy w' (some g) → K (a.put o.dst (goInt (Nat.min sLen dLen))) w') :
    if Region.wanted o (yielded ops a.tmps) = true then Oper.wp P o a w K Q else E := by
  have hw : Region.wanted o (yielded ops a.tmps) = true := by simp [Region.wanted, hgd]
  rw [if_pos hw]
  obtain ⟨w', hrun, h2, h3⟩ := run_copy_N' (P := P) w dT sT o.type elem sz g off dLen dCap ad sLen sCap cur t cs hu hsz hg hn hsrc hfit h1
  unfold Oper.wp
  simp [execOp, ho, resolve, invoke, builtin, hd, hs, hrun, Result.andThen]
  exact h w' h2 h3


theorem splice_shift {α : Type} (cur xs cs : List α) (a s n : Nat) (hx : cur.take n = xs) (hcs : cs.length = s) (han : a ≤ n) (hl : n + s ≤ cur.length) :
    (splice (splice cur (a + s) (xs.drop a)) a cs).take (n + s) = xs.take a ++ cs ++ xs.drop a := by
  have hxl : xs.length = n := by rw [← hx, List.length_take]; omega
  have h1 : (splice cur (a + s) (xs.drop a)).take a = xs.take a := by
    unfold splice
    rw [List.take_append_of_le_length (by rw [List.length_take]; omega), List.take_take, Nat.min_eq_left (by omega), ← hx, List.take_take, Nat.min_eq_left han]
  have h2 : (splice cur (a + s) (xs.drop a)).drop (a + s) = xs.drop a ++ cur.drop (a + s + (xs.drop a).length) := by
    unfold splice
    rw [List.drop_append, List.drop_eq_nil_of_le (by rw [List.length_take]; omega), List.nil_append, List.length_take, Nat.min_eq_left (by omega), Nat.sub_self, List.drop_zero]
  have h3 : splice (splice cur (a + s) (xs.drop a)) a cs = (xs.take a ++ cs ++ xs.drop a) ++ cur.drop (a + s + (xs.drop a).length) := by
    conv => lhs; unfold splice
    rw [hcs, show splice cur (a + s) (xs.drop a) = splice cur (a + s) (xs.drop a) from rfl] at *
    rw [show (List.take (a + s) cur ++ (xs.drop a ++ cur.drop (a + s + (xs.drop a).length))) = splice cur (a + s) (xs.drop a) from rfl, h1, h2]
    simp
  rw [h3, List.take_append_of_le_length (by simp only [List.length_append, List.length_take, List.length_drop, hcs, hxl]; omega), List.take_of_length_le (by simp only [List.length_append, List.length_take, List.length_drop, hcs, hxl]; omega)]

theorem splice_grow {α : Type} (row xs cs : List α) (a s n : Nat) (hr : row.take a = xs.take a) (hcs : cs.length = s) (hxl : xs.length = n) (han : a ≤ n) (_hl : n + s ≤ row.length) :
    (splice (splice row a cs) (a + s) (xs.drop a)).take (n + s) = xs.take a ++ cs ++ xs.drop a := by
  have h1 : (splice row a cs).take (a + s) = xs.take a ++ cs := by
    unfold splice
    rw [hr, ← List.append_assoc, List.take_append_of_le_length (by simp only [List.length_append, List.length_take, hcs, hxl]; omega), List.take_of_length_le (by simp only [List.length_append, List.length_take, hcs, hxl]; omega)]
  have h2 : splice (splice row a cs) (a + s) (xs.drop a) = (splice row a cs).take (a + s) ++ (xs.drop a ++ (splice row a cs).drop (a + s + (xs.drop a).length)) := rfl
  rw [h2, h1, ← List.append_assoc, List.take_append_of_le_length (by simp only [List.length_append, List.length_take, List.length_drop, hcs, hxl]; omega), List.take_of_length_le (by simp only [List.length_append, List.length_take, List.length_drop, hcs, hxl]; omega)]


theorem cell_new (w : World) (c : Array Value) (t : TypeId) (b i : Nat) (h : b = w.heap.size) : (w.alloc (.cells c t)).cell? ⟨b, i, none⟩ = c[i]? := by subst h; simp
theorem cell_old (w : World) (o : Obj) (b i : Nat) (h : b < w.heap.size) : (w.alloc o).cell? ⟨b, i, none⟩ = w.cell? ⟨b, i, none⟩ := World.cell?_alloc_lt w o _ h
theorem frozen_new (w : World) (c : Array Value) (t : TypeId) (b i : Nat) (h : b = w.heap.size) : (w.alloc (.cells c t)).frozen? ⟨b, i, none⟩ = false := by subst h; simp
theorem frozen_old (w : World) (o : Obj) (b i : Nat) (h : b < w.heap.size) : (w.alloc o).frozen? ⟨b, i, none⟩ = w.frozen? ⟨b, i, none⟩ := World.frozen?_alloc_old w o _ (Nat.ne_of_lt h)
theorem grown_of_below {w w' : World} (h : Below w.heap.size w w') (row : Option Nat) : w.grownBy w' row := ⟨h.os, h.tape, h.output, h.size, fun k hk _ => h.block k hk⟩
theorem own_below {w w' : World} {base : Nat} {e : TypeId} {size : Nat} {v : Value} {n : Nat} {xs : List Value} (h : w.ownsRow base e size v n xs) (hb : Below w.heap.size w w') : w'.ownsRow base e size v n xs := h.kept (grown_of_below hb none) (by cases v.ownBlock <;> simp)
theorem own_form {w : World} {base : Nat} {e : TypeId} {size : Nat} {v : Value} {n : Nat} {xs : List Value} (h : w.ownsRow base e size v n xs) (hn : 0 < n) : ∃ A' c', v = .slice A' n c' := by
  obtain ⟨g, cap, rfl, _⟩ := h.form hn
  exact ⟨_, _, rfl⟩
theorem own_ne_type {w : World} {base : Nat} {e t : TypeId} {size : Nat} {v : Value} {n g : Nat} {xs : List Value} {cs : Array Value} {fr : Nat × Nat} (h : w.ownsRow base e size v n xs) (hg : w.heap[g]? = some (.cells cs t fr)) (hne : e ≠ t) : v.ownBlock ≠ some g := by
  rcases h.2 with ⟨rfl, _⟩ | ⟨g', cap, cur, rfl, _, hh, _⟩
  · intro e; cases e
  · intro he
    injection he with he
    simp only at he
    subst he
    rw [hg] at hh
    injection hh with hh
    injection hh with _ ht
    exact hne ht.symm
theorem own_setCell {w : World} {base : Nat} {e : TypeId} {size : Nat} {v : Value} {n : Nat} {xs : List Value} (h : w.ownsRow base e size v n xs) {a : Addr} (u : Value) (hne : v.ownBlock ≠ some a.block) : (w.setCell a u).ownsRow base e size v n xs :=
  h.kept (row := some a.block) ⟨rfl, rfl, rfl, by simp, fun k hk hkr => Below.heap_setCell w a u k (fun e => hkr (by rw [e]))⟩ (.inr hne)
theorem set_get (w : World) (a b : Addr) (u v : Value) (ha : w.cell? a = some v) : (w.setCell a u).cell? b = if a = b then some u else w.cell? b := by
  by_cases h : a = b
  · subst h; rw [if_pos rfl]; exact World.cell?_setCell_same w a u ha
  · rw [if_neg h]; exact World.cell?_setCell_other w a b u h
theorem set_other (w : World) (a b : Addr) (u : Value) (h : a ≠ b) : (w.setCell a u).cell? b = w.cell? b := World.cell?_setCell_other w a b u h
/- append, whatever the source: nil, empty or not. -/
theorem run_append_zero {P : Program} (w : World) (t ty e : TypeId) (i : TypeInfo) (ht : P.underlying t = some (.slice e)) (hi : P.info? e = some i)
    (ao : Option Addr) (n cap : Nat) (hnc : n ≤ cap) (xo : Option Addr) (c : Nat) :
    (Builtin.append_ #[t, t] ty #[.slice ao n cap, .slice xo 0 c]).run P w = .ok (.slice ao n cap) w := by
  have hl : ∀ (x : Addr), (loadCells x 0).run P w = .ok #[] w := fun x => by simpa using run_loadCells_list (P := P) w x [] (by simp)
  cases ao <;> cases xo <;> simp [Builtin.append_, run_underlying ht, sizeOf, typeInfo, hi, Builtin.lenOf, Builtin.firstCells, hnc, storeCells, hl]

theorem run_append_any {P : Program} (w : World) (base : Nat) (t ty e : TypeId) (i : TypeInfo) (z : Value) (size bytes : Nat) (ht : P.underlying t = some (.slice e)) (hi : P.info? e = some i) (hz : i.zero = some z)
    (hsize : i.size = size) (hby : i.bytes = bytes) (hzs : z.cells.size = size) (hsz : 0 < size)
    (v : Value) (n : Nat) (xs : List Value) (hown : w.ownsRow base e size v n xs)
    (xo : Option Addr) (m c : Nat) (news : List Value) (hxo : xo = none → m = 0) (hl : news.length = m * size) (hnews : ∀ ad, xo = some ad → ∀ (j : Nat) (u : Value), news[j]? = some u → w.cell? (ad.add j) = some u) (h1 : ∀ u ∈ news, u.oneCell' = true)
    (h63 : n + m ≤ maxLen) (hbytes : (n + m) * bytes ≤ 140737488355328) (hbase : base ≤ w.heap.size) :
    ∃ A' c' w', (Builtin.append_ #[t, t] ty #[v, .slice xo m c]).run P w = .ok (.slice A' (n + m) c') w' ∧ w'.ownsRow base e size (.slice A' (n + m) c') (n + m) (xs ++ news) ∧ w.grownBy w' v.ownBlock ∧
      (∀ g, (Value.slice A' (n + m) c').ownBlock = some g → v.ownBlock = some g ∨ g = w.heap.size) := by
  rcases Nat.eq_zero_or_pos m with rfl | hm
  · obtain rfl : news = [] := List.eq_nil_of_length_eq_zero (by simpa using hl)
    rw [List.append_nil, Nat.add_zero]
    rcases hown.2 with ⟨rfl, rfl⟩ | ⟨g, cap, cur, rfl, hbg, hg, hnc, hcm, hcs, htake⟩
    · exact ⟨none, 0, w, run_append_zero w t ty e i ht hi none 0 0 (Nat.le_refl _) xo c, hown, World.grownBy.refl _ _, fun g hg => .inl hg⟩
    · exact ⟨_, _, w, run_append_zero w t ty e i ht hi _ n cap hnc xo c, hown, World.grownBy.refl _ _, fun g hg => .inl hg⟩
  · cases xo with
    | none => exact absurd (hxo rfl) (by omega)
    | some ad =>
      obtain ⟨g, cap, w', hr, ho, hg, hor, _⟩ := run_append_lies (P := P) (w := w) t ty base e i z size bytes ht hi hz hsize hby hzs hsz v n xs hown ad m c news hl (hnews ad rfl) h1 hm h63 hbytes hbase _ rfl
      exact ⟨_, _, w', hr, ho, hg, fun k hk => by injection hk with hk; subst hk; exact hor⟩

theorem wpList_append_any {P : Program} {w : World} {ops : Array Oper} {rest : List Oper} {o : Oper} {a : Act} {Q : Exit → Act → World → Prop} (hgd : o.guard = none) (s x : Operand) (t : TypeId)
    (ho : o.op = .call { callee := .builtin .append, args := #[s, x], argTypes := #[t, t] })
    (base : Nat) (e : TypeId) (i : TypeInfo) (z : Value) (size bytes : Nat) (ht : P.underlying t = some (.slice e)) (hi : P.info? e = some i) (hz : i.zero = some z)
    (hsize : i.size = size) (hby : i.bytes = bytes) (hzs : z.cells.size = size) (hsz : 0 < size)
    (v : Value) (n : Nat) (xs : List Value) (hs : a.eval s = v) (hown : w.ownsRow base e size v n xs)
    (xo : Option Addr) (m c : Nat) (news : List Value) (hx : a.eval x = .slice xo m c) (hxo : xo = none → m = 0) (hl : news.length = m * size) (hnews : ∀ ad, xo = some ad → ∀ (j : Nat) (u : Value), news[j]? = some u → w.cell? (ad.add j) = some u) (h1 : ∀ u ∈ news, u.oneCell' = true)
    (h63 : n + m ≤ maxLen) (hbytes : (n + m) * bytes ≤ 140737488355328) (hbase : base ≤ w.heap.size)
    (h : ∀ A' c' w', w'.ownsRow base e size (.slice A' (n + m) c') (n + m) (xs ++ news) → w.grownBy w' v.ownBlock → (∀ g, (Value.slice A' (n + m) c').ownBlock = some g → v.ownBlock = some g ∨ g = w.heap.size) → wpList P ops Q rest (a.put o.dst (.slice A' (n + m) c')) w') : wpList P ops Q (o :: rest) a w := by
  obtain ⟨A', c', w', hr, h1, h2, h3⟩ := run_append_any (P := P) w base t o.type e i z size bytes ht hi hz hsize hby hzs hsz v n xs hown xo m c news hxo hl hnews h1 h63 hbytes hbase
  exact Lib.wpList_append_run w hgd s x t t ho _ _ hs hx _ _ hr (h A' c' w' h1 h2 h3)

theorem step_append_any {P : Program} {ops : Array Oper} {o : Oper} {a : Act} {w : World} {K : Act → World → Prop} {Q : Exit → Act → World → Prop} {E : Prop} (hgd : o.guard = none) (s x : Operand) (t : TypeId)
    (ho : o.op = .call { callee := .builtin .append, args := #[s, x], argTypes := #[t, t] })
    (base : Nat) (e : TypeId) (i : TypeInfo) (z : Value) (size bytes : Nat) (ht : P.underlying t = some (.slice e)) (hi : P.info? e = some i) (hz : i.zero = some z)
    (hsize : i.size = size) (hby : i.bytes = bytes) (hzs : z.cells.size = size) (hsz : 0 < size)
    (v : Value) (n : Nat) (xs : List Value) (hs : a.eval s = v) (hown : w.ownsRow base e size v n xs)
    (xo : Option Addr) (m c : Nat) (news : List Value) (hx : a.eval x = .slice xo m c) (hxo : xo = none → m = 0) (hl : news.length = m * size) (hnews : ∀ ad, xo = some ad → ∀ (j : Nat) (u : Value), news[j]? = some u → w.cell? (ad.add j) = some u) (h1 : ∀ u ∈ news, u.oneCell' = true)
    (h63 : n + m ≤ maxLen) (hbytes : (n + m) * bytes ≤ 140737488355328) (hbase : base ≤ w.heap.size)
    (h : ∀ A' c' w', w'.ownsRow base e size (.slice A' (n + m) c') (n + m) (xs ++ news) → w.grownBy w' v.ownBlock → (∀ g, (Value.slice A' (n + m) c').ownBlock = some g → v.ownBlock = some g ∨ g = w.heap.size) → K (a.put o.dst (.slice A' (n + m) c')) w') :
    if Region.wanted o (yielded ops a.tmps) = true then Oper.wp P o a w K Q else E := by
  have hw : Region.wanted o (yielded ops a.tmps) = true := by simp [Region.wanted, hgd]
  rw [if_pos hw]
  obtain ⟨A', c', w', hr, h1, h2, h3⟩ := run_append_any (P := P) w base t o.type e i z size bytes ht hi hz hsize hby hzs hsz v n xs hown xo m c news hxo hl hnews h1 h63 hbytes hbase
  exact Lib.wp_append_run w s x t t ho _ _ hs hx _ _ hr (h A' c' w' h1 h2 h3)

theorem step_append_zero {P : Program} {ops : Array Oper} {o : Oper} {a : Act} {w : World} {K : Act → World → Prop} {Q : Exit → Act → World → Prop} {E : Prop} (hgd : o.guard = none) (s x : Operand) (t : TypeId)
    (ho : o.op = .call { callee := .builtin .append, args := #[s, x], argTypes := #[t, t] }) (e : TypeId) (i : TypeInfo) (ht : P.underlying t = some (.slice e)) (hi : P.info? e = some i)
    (ao : Option Addr) (n cap : Nat) (hnc : n ≤ cap) (hs : a.eval s = .slice ao n cap) (xo : Option Addr) (c : Nat) (hx : a.eval x = .slice xo 0 c) (hK : K (a.put o.dst (.slice ao n cap)) w) :
    if Region.wanted o (yielded ops a.tmps) = true then Oper.wp P o a w K Q else E := by
  have hw : Region.wanted o (yielded ops a.tmps) = true := by simp [Region.wanted, hgd]
  rw [if_pos hw]
  exact Lib.wp_append_run w s x t t ho _ _ hs hx _ _ (run_append_zero w t o.type e i ht hi ao n cap hnc xo c) hK
/-- What is owned is read from its value's address. -/
theorem own_src {w : World} {base : Nat} {e : TypeId} {size : Nat} {A : Option Addr} {n c : Nat} {xs : List Value} (h : w.ownsRow base e size (.slice A n c) n xs) :
    (A = none → n = 0) ∧ ∀ ad, A = some ad → ∀ (j : Nat) (u : Value), xs[j]? = some u → w.cell? (ad.add j) = some u := by
  refine ⟨fun hA => ?_, fun ad hA j u hu => ?_⟩
  · subst hA
    rcases h.2 with ⟨h', h0⟩ | ⟨g, cap, cur, h', _⟩
    · exact h0
    · cases h'
  · subst hA
    rcases h.2 with ⟨h', _⟩ | ⟨g, cap, cur, h', _⟩
    · cases h'
    · injection h' with h1 _ _
      injection h1 with h1
      subst h1
      exact h.cells (g := g) rfl j u hu
theorem gcell {W w1 : World} {row : Option Nat} (hg : W.grownBy w1 row) : (∀ b o, b < W.heap.size → some b ≠ row → w1.cell? ⟨b, o, none⟩ = W.cell? ⟨b, o, none⟩) ∧ (∀ b o, b < W.heap.size → some b ≠ row → w1.frozen? ⟨b, o, none⟩ = W.frozen? ⟨b, o, none⟩) :=
  ⟨fun b _o h hne => World.cell?_of_block (w := W) (hg.block b h hne), fun b _o h hne => World.frozen?_of_block (w := W) (hg.block b h hne)⟩
theorem own_block_lt {w : World} {base : Nat} {e : TypeId} {size : Nat} {A : Option Addr} {n c : Nat} {xs : List Value} (h : w.ownsRow base e size (.slice A n c) n xs) {k : Nat} (hk : (Value.slice A n c).ownBlock = some k) : base ≤ k ∧ k < w.heap.size := h.lt k hk

end Go.Proofs.YtfhpniafkkgibaaDoor
