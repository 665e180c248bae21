/- More small words on memory: one record of a slice changed by a store. Conditions: as each lemma states. -/
import Derived.Test.YtfhpniafkkgibaaDoorKit
namespace Go.Proofs.YtfhpniafkkgibaaDoor
open Go.RowKit

theorem sl_at {α : Type} {w : World} {B sz n g ao : Nat} {cells : α → List Value} {l : List α} (h : Sl w B sz cells (some ⟨g, ao, none⟩) n l) {i : Nat} {x : α} (hx : l[i]? = some x) {j : Nat} {u : Value} (hu : (cells x)[j]? = some u) : w.cell? ⟨g, ao + (i * sz + j), none⟩ = some u := by
  have hn : 0 < n := by have := (List.getElem?_eq_some_iff.1 hx).1; rw [h.len] at this; omega
  obtain ⟨ab, ao', e, _, hc⟩ := h.at_ hn
  injection e with e
  injection e with e1 e2
  subst e1 e2
  exact hc i x hx j u hu

theorem slot_ne {sz i k j j' : Nat} (hj : j < sz) (hj' : j' < sz) (h : i ≠ k ∨ j ≠ j') : i * sz + j ≠ k * sz + j' := by
  intro e
  have h1 : (i * sz + j) / sz = i := by rw [Nat.mul_comm, Nat.mul_add_div (by omega), Nat.div_eq_of_lt hj]; omega
  have h2 : (k * sz + j') / sz = k := by rw [Nat.mul_comm, Nat.mul_add_div (by omega), Nat.div_eq_of_lt hj']; omega
  rw [e, h2] at h1
  subst h1
  rcases h with h | h
  · exact h rfl
  · omega

/-- One cell of one record is set. -/
theorem Sl.mod1 {α : Type} {w : World} {B sz n g ao k j : Nat} {cells : α → List Value} {l : List α} {f : α → α} {t : α} {u : Value} (hsz : ∀ x, (cells x).length = sz)
    (h : Sl w B sz cells (some ⟨g, ao, none⟩) n l) (ht : l[k]? = some t) (hj : j < sz) (hf : cells (f t) = (cells t).set j u) (p : Addr) (hp : p = ⟨g, ao + (k * sz + j), none⟩) :
    Sl (w.setCell p u) B sz cells (some ⟨g, ao, none⟩) n (l.modify k f) := by
  subst hp
  refine ⟨by rw [List.length_modify, h.len], fun hn => ?_⟩
  obtain ⟨ab, ao', e, hlt, _⟩ := h.at_ hn
  injection e with e
  injection e with e1 e2
  subst e1 e2
  refine ⟨g, ao, rfl, hlt, fun i x hx j' v hv => ?_⟩
  rw [List.getElem?_modify] at hx
  by_cases hik : k = i
  · subst hik
    rw [ht] at hx
    simp at hx
    subst hx
    have hj' : j' < sz := by have := (List.getElem?_eq_some_iff.1 hv).1; rwa [hsz] at this
    rw [hf, List.getElem?_set] at hv
    by_cases hjj : j = j'
    · subst hjj
      rw [if_pos rfl, if_pos (by rw [hsz]; exact hj)] at hv
      injection hv with hv
      subst hv
      obtain ⟨u0, hu0⟩ : ∃ u0, (cells t)[j]? = some u0 := ⟨_, List.getElem?_eq_getElem (by rw [hsz]; exact hj)⟩
      exact World.cell?_setCell_same _ _ _ (sl_at h ht hu0)
    · rw [if_neg hjj] at hv
      rw [set_other _ _ _ _ (by intro e; injection e with e1 e2; have := slot_ne (sz := sz) (i := k) (k := k) hj hj' (.inr hjj); omega)]
      exact sl_at h ht hv
  · simp [hik] at hx
    have hj' : j' < sz := by have := (List.getElem?_eq_some_iff.1 hv).1; rwa [hsz] at this
    rw [set_other _ _ _ _ (by intro e; injection e with e1 e2; have := slot_ne (sz := sz) (i := k) (k := i) hj hj' (.inl hik); omega)]
    exact sl_at h hx hv
theorem Sl.lt {α : Type} {w : World} {B sz n g ao : Nat} {cells : α → List Value} {l : List α} (h : Sl w B sz cells (some ⟨g, ao, none⟩) n l) (hn : 0 < n) : g < B := by
  obtain ⟨ab, ao', e, hlt, _⟩ := h.at_ hn
  injection e with e
  injection e with e1 e2
  subst e1
  exact hlt
/-- The form of a row that the call owns. -/
theorem own_at0 {w : World} {base : Nat} {e : TypeId} {size : Nat} {A : Option Addr} {n c : Nat} {xs : List Value} (h : w.ownsRow base e size (.slice A n c) n xs) (hn : 0 < n) : ∃ g, A = some ⟨g, 0, none⟩ ∧ base ≤ g ∧ g < w.heap.size ∧ ∀ j, w.frozen? ⟨g, j, none⟩ = false := by
  obtain ⟨g, cap, hv, hb, hlt⟩ := h.form hn
  injection hv with hv
  subst hv
  exact ⟨g, rfl, hb, hlt, fun j => h.frozenAt j⟩
theorem heap_new (w : World) (o : Obj) : (w.alloc o).heap[w.heap.size]? = some o := by show (w.heap.push o)[w.heap.size]? = some o; simp
theorem belc {B : Nat} {w w' : World} (h : Below B w w') {b o : Nat} (hb : b < B) : w'.cell? ⟨b, o, none⟩ = w.cell? ⟨b, o, none⟩ := h.cell (p := ⟨b, o, none⟩) hb
theorem belf {B : Nat} {w w' : World} (h : Below B w w') {b o : Nat} (hb : b < B) : w'.frozen? ⟨b, o, none⟩ = w.frozen? ⟨b, o, none⟩ := h.frozen (p := ⟨b, o, none⟩) hb
theorem own_room {w : World} {base : Nat} {e : TypeId} {size : Nat} {A : Option Addr} {n c : Nat} {xs : List Value} (h : w.ownsRow base e size (.slice A n c) n xs) : n ≤ c ∧ (A = none → c = 0) := by
  rcases h.2 with ⟨h', h0⟩ | ⟨g, cap, cur, h', _, _, hnc, _⟩
  · injection h' with h1 h2 h3
    subst h1 h3
    exact ⟨by omega, fun _ => rfl⟩
  · injection h' with h1 h2 h3
    subst h1 h3
    exact ⟨hnc, fun h => by cases h⟩
theorem own_cap {w : World} {base : Nat} {e : TypeId} {size : Nat} {A : Option Addr} {n c : Nat} {xs : List Value} (h : w.ownsRow base e size (.slice A n c) n xs) : c ≤ 9223372036854775807 := by
  rcases h.2 with ⟨h', h0⟩ | ⟨g, cap, cur, h', _, _, _, hcm, _⟩
  · injection h' with h1 h2 h3
    subst h3
    omega
  · injection h' with h1 h2 h3
    subst h3
    unfold maxLen at hcm; omega
theorem own_lo {w : World} {base : Nat} {e : TypeId} {size : Nat} {A : Option Addr} {n c : Nat} {xs : List Value} (h : w.ownsRow base e size (.slice A n c) n xs) {b : Nat} (hb : b ≤ base) : ∀ ad, A = some ad → b ≤ ad.block := by
  intro ad hA
  subst hA
  rcases h.2 with ⟨h', _⟩ | ⟨g, cap, cur, h', hbg, _⟩
  · cases h'
  · injection h' with h1 _ _
    injection h1 with h1
    subst h1
    show b ≤ g
    omega
theorem modify_two {α : Type} {l : List α} {q : Nat} {a : α} {f1 f2 g : α → α} (h : l[q]? = some a) (hf : f2 (f1 a) = g a) : (l.modify q f1).modify q f2 = l.modify q g := by
  apply List.ext_getElem?
  intro i
  rw [List.getElem?_modify, List.getElem?_modify, List.getElem?_modify]
  by_cases hq : q = i
  · subst hq
    simp [h, hf]
  · simp [hq]
theorem own_open {α : Type} {w : World} {base sz n c : Nat} {e : TypeId} {cells : α → List Value} {A : Option Addr} {l : List α} (h : w.ownsRow base e sz (.slice A (0 + n) c) (0 + n) ([] ++ l.flatMap cells)) (hsz : ∀ x, (cells x).length = sz) (hl : l.length = n) (hn : 0 < n) :
    ∃ g, A = some ⟨g, 0, none⟩ ∧ base ≤ g ∧ g < w.heap.size ∧ (∀ j, w.frozen? ⟨g, j, none⟩ = false) ∧ Sl w w.heap.size sz cells (some ⟨g, 0, none⟩) n l := by
  rw [Nat.zero_add, List.nil_append] at h
  obtain ⟨g, rfl, h1, h2, h3⟩ := own_at0 h hn
  exact ⟨g, rfl, h1, h2, h3, Sl.of_own hsz hl h⟩
theorem Sl.src {α : Type} {w : World} {B sz n : Nat} {cells : α → List Value} {A : Option Addr} {l : List α} (h : Sl w B sz cells A n l) (hsz : ∀ x, (cells x).length = sz) : (A = none → n = 0) ∧ (∀ ad, A = some ad → ∀ (j : Nat) (u : Value), (l.flatMap cells)[j]? = some u → w.cell? (ad.add j) = some u) := by
  refine ⟨fun hA => ?_, fun ad hA j u hu => ?_⟩
  · rcases Nat.eq_zero_or_pos n with h0 | h0
    · exact h0
    · obtain ⟨ab, ao, e, _⟩ := h.at_ h0
      rw [hA] at e; cases e
  · have hj : j < (l.flatMap cells).length := (List.getElem?_eq_some_iff.1 hu).1
    rw [flat_len hsz] at hj
    have hp : 0 < l.length := by rcases Nat.eq_zero_or_pos l.length with h0 | h0; (rw [h0] at hj; omega); exact h0
    have hz : 0 < sz := by rcases Nat.eq_zero_or_pos sz with h0 | h0; (rw [h0] at hj; omega); exact h0
    obtain ⟨ab, ao, e, _, hat⟩ := h.at_ (by rw [← h.len]; exact hp)
    rw [hA] at e
    injection e with e
    subst e
    rw [Addr.add_lit]
    have hd : j / sz < l.length := Nat.div_lt_of_lt_mul (by rw [Nat.mul_comm]; exact hj)
    have hx := List.getElem?_eq_getElem hd
    have hm : j % sz < (cells l[j / sz]).length := by rw [hsz]; exact Nat.mod_lt _ hz
    have h2 := flat_get hsz l (j / sz) _ hx (j % sz) _ (List.getElem?_eq_getElem hm)
    have hj5 : j / sz * sz + j % sz = j := Nat.div_add_mod' j sz
    rw [hj5, hu] at h2
    injection h2 with h2
    have h3 := hat _ _ hx (j % sz) _ (List.getElem?_eq_getElem hm)
    rw [hj5, ← h2] at h3
    exact h3
/-- The tail of a slice, as the model spells its address. -/
theorem sl_cut {α : Type} {w : World} {B sz n ab ao c k : Nat} {cells : α → List Value} {l : List α} (h : Sl w B sz cells (some ⟨ab, ao, none⟩) n l) (hsz : ∀ x, (cells x).length = sz) (hc : n ≤ c) (hk : k ≤ n) :
    ∃ A : Addr, (if c = k then (some ⟨ab, ao, none⟩ : Option Addr) else some ⟨ab, ao + k * sz, none⟩) = some A ∧ ∀ w', Below B w w' → ∀ ad, some A = some ad → ∀ (t : Nat) (u : Value), ((l.drop k).flatMap cells)[t]? = some u → w'.cell? (ad.add t) = some u := by
  by_cases he : c = k
  · refine ⟨⟨ab, ao, none⟩, by rw [if_pos he], fun w' hb ad had t u hu => ?_⟩
    have : l.drop k = [] := List.drop_eq_nil_of_le (by rw [h.len]; omega)
    rw [this] at hu
    simp at hu
  · refine ⟨⟨ab, ao + k * sz, none⟩, by rw [if_neg he], fun w' hb ad had t u hu => ?_⟩
    injection had with had
    subst had
    rw [← flat_drop hsz, List.getElem?_drop] at hu
    have := (Sl.src (h.below hb) hsz).2 _ rfl (k * sz + t) u hu
    rw [Addr.add_lit] at this ⊢
    rwa [Nat.add_assoc]
/-- The form of a slice that may be cut again. -/
def Room (A : Option Addr) (n c : Nat) : Prop := n ≤ c ∧ (A = none ∧ c = 0 ∨ ∃ g o, A = some ⟨g, o, none⟩)
theorem Room.nil : Room none 0 0 := ⟨Nat.le_refl _, .inl ⟨rfl, rfl⟩⟩
theorem own_Room {w : World} {base : Nat} {e : TypeId} {size : Nat} {A : Option Addr} {n c : Nat} {xs : List Value} (h : w.ownsRow base e size (.slice A n c) n xs) : Room A n c := by
  refine ⟨(own_room h).1, ?_⟩
  rcases h.2 with ⟨h', _⟩ | ⟨g, cap, cur, h', _⟩
  · injection h' with h1 h2 h3; subst h1 h3; exact .inl ⟨rfl, rfl⟩
  · injection h' with h1 h2 h3; exact .inr ⟨g, 0, h1⟩
theorem own_mono {w : World} {base base' : Nat} {e : TypeId} {size : Nat} {v : Value} {n : Nat} {xs : List Value} (h : w.ownsRow base e size v n xs) (hb : base' ≤ base) : w.ownsRow base' e size v n xs := by
  refine ⟨h.1, ?_⟩
  rcases h.2 with h' | ⟨g, cap, cur, hv, hg, hr⟩
  · exact .inl h'
  · exact .inr ⟨g, cap, cur, hv, by omega, hr⟩
theorem flat_set2 {α : Type} {cells : α → List Value} (hsz : ∀ x, (cells x).length = 2) (x' : α) (u v : Value) (hx : cells x' = [u, v]) : ∀ (l : List α) (k : Nat), k < l.length → ((l.flatMap cells).set (k * 2) u).set (k * 2 + 1) v = (l.set k x').flatMap cells
  | [], k, h => by simp at h
  | y :: l, 0, _ => by
    have hy := hsz y
    match hc : cells y, hy with
    | [a, b], _ => simp [List.flatMap_cons, hc, hx]
  | y :: l, k + 1, h => by
    have hy := hsz y
    have ih := flat_set2 hsz x' u v hx l k (by simpa using h)
    match hc : cells y, hy with
    | [a, b], _ =>
      simp only [List.flatMap_cons, hc, List.set_cons_succ]
      rw [← ih, show (k + 1) * 2 = k * 2 + 1 + 1 from by omega, show k * 2 + 1 + 1 + 1 = k * 2 + 1 + 1 + 1 from rfl]
      simp
theorem own_put2 {α : Type} {cells : α → List Value} (hsz : ∀ x, (cells x).length = 2) {w : World} {base : Nat} {e : TypeId} {g n c : Nat} {l : List α} (h : w.ownsRow base e 2 (.slice (some ⟨g, 0, none⟩) n c) n (l.flatMap cells)) (hl : l.length = n) {k : Nat} (hk : k < n) (x' : α) (u v : Value) (hx : cells x' = [u, v]) :
    ((w.setCell ⟨g, k * 2, none⟩ u).setCell ⟨g, k * 2 + 1, none⟩ v).ownsRow base e 2 (.slice (some ⟨g, 0, none⟩) n c) n ((l.set k x').flatMap cells) := by
  rw [← flat_set2 hsz x' u v hx l k (by omega)]
  exact ((h.stored _ _).1.stored _ _).1
theorem Sl.apart {α : Type} {w w' : World} {B sz n : Nat} {cells : α → List Value} {A : Option Addr} {l : List α} {row : Option Nat} (h : Sl w B sz cells A n l) (hB : B ≤ w.heap.size) (hg : w.grownBy w' row) (hne : 0 < n → ∀ ad, A = some ad → some ad.block ≠ row) : Sl w' B sz cells A n l :=
  ⟨h.len, fun hn => by
    obtain ⟨ab, ao, e, hlt, hc⟩ := h.at_ hn
    exact ⟨ab, ao, e, hlt, fun i x hx j u hu => ((gcell hg).1 ab _ (by omega) (hne hn _ e)).trans (hc i x hx j u hu)⟩⟩
theorem grown1 (w : World) (p : Addr) (u : Value) : w.grownBy (w.setCell p u) (some p.block) :=
  ⟨rfl, rfl, rfl, by simp, fun k _ hkr => Below.heap_setCell w p u k (fun e => hkr (by rw [e]))⟩
theorem grown2 (w : World) (g i j : Nat) (u v : Value) : w.grownBy ((w.setCell ⟨g, i, none⟩ u).setCell ⟨g, j, none⟩ v) (some g) := (grown1 w ⟨g, i, none⟩ u).trans (grown1 _ ⟨g, j, none⟩ v)
theorem own_eq {w : World} {base : Nat} {e : TypeId} {size a b c : Nat} {A : Option Addr} {xs : List Value} (h : a = b) (ho : w.ownsRow base e size (.slice A a c) a xs) : w.ownsRow base e size (.slice A b c) b xs := by subst h; exact ho
theorem Sl.put2 {α : Type} {w : World} {B n g ao k : Nat} {cells : α → List Value} {l : List α} {u v : Value} (hsz : ∀ x, (cells x).length = 2) (h : Sl w B 2 cells (some ⟨g, ao, none⟩) n l) (hk : k < n) (x' : α) (hx : cells x' = [u, v]) (p q : Addr) (hp : p = ⟨g, ao + k * 2, none⟩) (hq : q = ⟨g, ao + k * 2 + 1, none⟩) :
    Sl ((w.setCell p u).setCell q v) B 2 cells (some ⟨g, ao, none⟩) n (l.set k x') := by
  subst hp hq
  obtain ⟨t, ht⟩ : ∃ t, l[k]? = some t := ⟨_, List.getElem?_eq_getElem (by rw [h.len]; exact hk)⟩
  refine ⟨by rw [List.length_set]; exact h.len, fun hn => ⟨g, ao, rfl, h.lt hn, fun i x hxi j s hs => ?_⟩⟩
  rw [List.getElem?_set] at hxi
  have hj : j < 2 := by have := (List.getElem?_eq_some_iff.1 hs).1; rwa [hsz] at this
  by_cases hik : k = i
  · subst hik
    rw [if_pos rfl, if_pos (by rw [h.len]; exact hk)] at hxi
    injection hxi with hxi
    subst hxi
    rw [hx] at hs
    have e0 : w.cell? ⟨g, ao + k * 2, none⟩ = some ((cells t)[0]'(by rw [hsz]; omega)) := sl_at h ht (j := 0) (List.getElem?_eq_getElem _)
    have e1 : w.cell? ⟨g, ao + k * 2 + 1, none⟩ = some ((cells t)[1]'(by rw [hsz]; omega)) := sl_at h ht (j := 1) (List.getElem?_eq_getElem _)
    match j, hj, hs with
    | 0, _, hs =>
      injection hs with hs; subst hs
      rw [Nat.add_zero, set_other _ _ _ _ (by intro e; injection e with e1 e2; omega)]
      exact World.cell?_setCell_same _ _ _ e0
    | 1, _, hs =>
      injection hs with hs; subst hs
      exact World.cell?_setCell_same _ _ _ ((set_other _ _ _ _ (by intro e; injection e with e1 e2; omega)).trans e1)
  · rw [if_neg hik] at hxi
    rw [set_other _ _ _ _ (by intro e; injection e with e1 e2; omega), set_other _ _ _ _ (by intro e; injection e with e1 e2; omega)]
    exact sl_at h hxi hs
end Go.Proofs.YtfhpniafkkgibaaDoor
