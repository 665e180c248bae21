/- Lists of shares in memory: jobs, beside the dice. -/
import Derived.Test.YtignbncphdemlaaRow
import Derived.Test.YtignbncphdemlaaN
import Derived.Test.YtignbncphdemlaaQ
import Derived.Test.YtignbncphdemlaaDice
import Derived.Test.YtignbncphdemlaaD
namespace Go.Proofs.Ytignbncphdemlaa
open Go.RowKit

theorem Dice.grown {w w' : World} {d : Nat} {row : Option Nat} (h : Dice w d) (hg : w.grownBy w' row) (hr : ∀ k, row = some k → d < k) : Dice w' d := by
  obtain ⟨hd, S, sn, sc, a, h0, h1, h2, h3, h4, h5⟩ := h
  have ne : ∀ b, b ≤ d → (some b : Option Nat) ≠ row := fun b hb e => by have := hr b e.symm; omega
  refine ⟨by have := hg.size; omega, S, sn, sc, a, ((gcell hg).1 _ _ hd (ne _ (Nat.le_refl _))).trans h0, ((gcell hg).1 _ _ hd (ne _ (Nat.le_refl _))).trans h1, ((gcell hg).2 _ _ hd (ne _ (Nat.le_refl _))).trans h2, h3, h4, fun i hi => ?_⟩
  obtain ⟨sb, so, x, e, hlt, h6, h7, h8⟩ := h5 i hi
  exact ⟨sb, so, x, e, hlt, h6, h7, ((gcell hg).1 _ _ (by omega) (ne _ (by omega))).trans h8⟩
theorem Thrown.grow {w w1 w2 : World} {d : Nat} {row : Option Nat} (h : Thrown w d w1) (hd : d < w.heap.size) (hg : w1.grownBy w2 row) (hr : ∀ k, row = some k → w.heap.size ≤ k) : Thrown w d w2 := by
  refine ⟨h.dice.grown hg (fun k hk => by have := hr k hk; omega), ⟨hg.os.trans h.grown.os, hg.tape.trans h.grown.tape, hg.output.trans h.grown.output, Nat.le_trans h.grown.size hg.size, fun k hk hne => ?_⟩⟩
  exact (hg.block k (by have := h.grown.size; omega) (fun e => by have := hr k e.symm; omega)).trans (h.grown.block k hk hne)
theorem grown_set (w : World) (p : Addr) (u : Value) : w.grownBy (w.setCell p u) (some p.block) := ⟨rfl, rfl, rfl, by simp, fun k hk hkr => Below.heap_setCell w p u k (fun e => hkr (by rw [e]))⟩

/-- A slice of records that lives beside the dice (block d) and an array X. -/
structure Lx {α : Type} (w : World) (d : Nat) (X : Option Nat) (sz : Nat) (cells : α → List Value) (A : Option Addr) (n : Nat) (l : List α) : Prop where
  sl : Sl w w.heap.size sz cells A n l
  hi : 0 < n → ∀ ad, A = some ad → ad.block ≠ d ∧ X ≠ some ad.block
section
variable {α : Type} {w w' : World} {d sz n : Nat} {X : Option Nat} {cells : α → List Value} {A : Option Addr} {l : List α}
theorem Lx.below (h : Lx w d X sz cells A n l) (hb : Below w.heap.size w w') : Lx w' d X sz cells A n l := ⟨h.sl.up hb, h.hi⟩
theorem Lx.thrown (h : Lx w d X sz cells A n l) (ht : Thrown w d w') : Lx w' d X sz cells A n l := ⟨h.sl.thrown ht (fun hn ad ha => (h.hi hn ad ha).1), h.hi⟩
theorem Lx.nil : Lx w d X sz cells A 0 [] := ⟨Sl.nil, fun h => absurd h (by decide)⟩
theorem Lx.grown {X' : Option Nat} (h : Lx w d X sz cells A n l) (hg : w.grownBy w' X) (hX : ∀ g, X' = some g → X = some g ∨ w.heap.size ≤ g) : Lx w' d X' sz cells A n l := by
  refine ⟨⟨h.sl.len, fun hn => ?_⟩, fun hn ad ha => ?_⟩
  · obtain ⟨ab, ao, e, hlt, hc⟩ := h.sl.at_ hn
    have := h.hi hn _ e
    exact ⟨ab, ao, e, by have := hg.size; omega, fun i x hx j u hu => ((gcell hg).1 ab _ hlt (fun e => this.2 e.symm)).trans (hc i x hx j u hu)⟩
  · obtain ⟨ab, ao, e, hlt, hc⟩ := h.sl.at_ hn
    rw [ha] at e
    injection e with e
    subst e
    have := h.hi hn _ ha
    refine ⟨this.1, fun e => ?_⟩
    rcases hX _ e with h1 | h1
    · exact this.2 h1
    · have : w.heap.size ≤ ab := h1
      omega
theorem Lx.turn {X' : Option Nat} (h : Lx w d X sz cells A n l) (hb : Below w.heap.size w w') (hX : ∀ g, X' = some g → w.heap.size ≤ g) : Lx w' d X' sz cells A n l :=
  ⟨h.sl.up hb, fun hn ad ha => by
    obtain ⟨ab, ao, e, hlt, _⟩ := h.sl.at_ hn
    rw [ha] at e
    injection e with e
    subst e
    exact ⟨(h.hi hn _ ha).1, fun e => by have := hX _ e; have h2 : w.heap.size ≤ ab := this; omega⟩⟩
theorem Lx.fresh {w0 : World} (h : Sl w w.heap.size sz cells A n l) (hd : d < w0.heap.size) (hX : ∀ g, X = some g → g < w0.heap.size) (hl : 0 < n → ∀ ad, A = some ad → w0.heap.size ≤ ad.block) : Lx w d X sz cells A n l :=
  ⟨h, fun hn ad ha => by
    have := hl hn ad ha
    exact ⟨by omega, fun e => by have := hX _ e; omega⟩⟩
end

/-- A slice of shares: where it lies, and what it holds. -/
structure Job where
  A : Option Addr
  n : Nat
  c : Nat
  s : List Shr
def Job.cells (j : Job) : List Value := [.slice j.A j.n j.c]
theorem Job.size (j : Job) : j.cells.length = 1 := rfl
theorem job_one (l : List Job) : ∀ u ∈ l.flatMap Job.cells, u.oneCell' = true := by
  intro u hu
  obtain ⟨t, _, ht⟩ := List.mem_flatMap.1 hu
  simp [Job.cells] at ht
  subst ht
  rfl
theorem job_at {l : List Job} {i : Nat} {j : Job} (h : l[i]? = some j) : (l.flatMap Job.cells)[i]? = some (.slice j.A j.n j.c) := by
  have := flat_get Job.size l i j h 0 _ rfl
  rwa [Nat.mul_one, Nat.add_zero] at this
theorem job_set (l : List Job) (i : Nat) (j : Job) : (l.flatMap Job.cells).set i (.slice j.A j.n j.c) = (l.set i j).flatMap Job.cells := by
  induction l generalizing i with
  | nil => simp
  | cons x l ih =>
    cases i with
    | zero => simp [Job.cells]
    | succ i => simp [Job.cells] at ih ⊢; exact ih i
/-- What is said of each job. -/
def Fair (w : World) (d : Nat) (X : Option Nat) (n q : Nat) (j : Job) : Prop := Lx w d X 2 Shr.cells j.A j.n j.s ∧ Fine n j.s ∧ Small q j.s ∧ j.n ≤ q ∧ j.n ≤ j.c ∧ (j.A = none → j.c = 0)
def Jobs (w : World) (d : Nat) (X : Option Nat) (n q : Nat) (js : List Job) : Prop := ∀ j ∈ js, Fair w d X n q j
section
variable {w w' : World} {d n q : Nat} {X : Option Nat} {js : List Job}
theorem Jobs.below (h : Jobs w d X n q js) (hb : Below w.heap.size w w') : Jobs w' d X n q js := fun j hj => ⟨(h j hj).1.below hb, (h j hj).2⟩
theorem Jobs.thrown (h : Jobs w d X n q js) (ht : Thrown w d w') : Jobs w' d X n q js := fun j hj => ⟨(h j hj).1.thrown ht, (h j hj).2⟩
theorem Jobs.grown {X' : Option Nat} (h : Jobs w d X n q js) (hg : w.grownBy w' X) (hX : ∀ g, X' = some g → X = some g ∨ w.heap.size ≤ g) : Jobs w' d X' n q js := fun j hj => ⟨(h j hj).1.grown hg hX, (h j hj).2⟩
theorem Jobs.turn {X' : Option Nat} (h : Jobs w d X n q js) (hb : Below w.heap.size w w') (hX : ∀ g, X' = some g → w.heap.size ≤ g) : Jobs w' d X' n q js := fun j hj => ⟨(h j hj).1.turn hb hX, (h j hj).2⟩
theorem Jobs.mono {q' : Nat} (h : Jobs w d X n q js) (hq : q ≤ q') : Jobs w d X n q' js := fun j hj => by
  obtain ⟨h1, h2, h3, h4, h5⟩ := h j hj
  exact ⟨h1, h2, h3.mono (by omega), by omega, h5⟩
theorem Jobs.sub {js' : List Job} (h : Jobs w d X n q js) (hs : ∀ j ∈ js', j ∈ js) : Jobs w d X n q js' := fun j hj => h j (hs j hj)
theorem Jobs.snoc {j : Job} (h : Jobs w d X n q js) (hj : Fair w d X n q j) : Jobs w d X n q (js ++ [j]) := fun k hk => by
  rcases List.mem_append.1 hk with h1 | h1
  · exact h k h1
  · simp at h1; subst h1; exact hj
theorem Jobs.set {j : Job} {i : Nat} (h : Jobs w d X n q js) (hj : Fair w d X n q j) : Jobs w d X n q (js.set i j) := fun k hk => by
  rcases List.mem_or_eq_of_mem_set hk with h1 | h1
  · exact h k h1
  · subst h1; exact hj
theorem fair_nil : Fair w d X n q ⟨none, 0, 0, []⟩ := ⟨Lx.nil, Fine.nil, fun i x h => by simp at h, Nat.zero_le _, Nat.le_refl _, fun _ => rfl⟩
end
/-- The steps of worker i in all jobs. -/
def cntJ : List Job → Nat → Int
  | [], _ => 0
  | j :: js, i => cnt j.s i + cntJ js i
theorem cntJ_append : ∀ (a b : List Job) (i : Nat), cntJ (a ++ b) i = cntJ a i + cntJ b i
  | [], b, i => by simp [cntJ]
  | j :: a, b, i => by have := cntJ_append a b i; simp only [List.cons_append, cntJ, this]; omega
theorem cntJ_split {js : List Job} {k : Nat} {j : Job} (h : js[k]? = some j) (i : Nat) : cntJ js i = cntJ (js.take k) i + (cnt j.s i + cntJ (js.drop (k + 1)) i) := by
  conv => lhs; rw [← List.take_append_drop k js, drop_at h]
  rw [cntJ_append]
  rfl
theorem cntJ_set {js : List Job} {k : Nat} {j : Job} (h : js[k]? = some j) (j' : Job) (i : Nat) : cntJ (js.set k j') i = cntJ js i - cnt j.s i + cnt j'.s i := by
  have hk := (List.getElem?_eq_some_iff.1 h).1
  have h2 : (js.set k j')[k]? = some j' := by rw [List.getElem?_set]; simp [hk]
  rw [cntJ_split h2 i, cntJ_split h i, List.take_set_of_le (Nat.le_refl _), List.drop_set_of_lt (by omega)]
  omega
theorem cntJ_nonneg {n : Nat} : ∀ {js : List Job}, (∀ j ∈ js, Fine n j.s) → ∀ i, 0 ≤ cntJ js i
  | [], _, _ => by simp [cntJ]
  | j :: js, h, i => by
    have h1 := cnt_nonneg (h j (by simp)) i
    have h2 := cntJ_nonneg (fun k hk => h k (by simp [hk])) i (js := js)
    simp only [cntJ]
    omega
theorem cntJ_le {n : Nat} {js : List Job} (hf : ∀ j ∈ js, Fine n j.s) {k : Nat} {j : Job} (h : js[k]? = some j) (i : Nat) : cnt j.s i ≤ cntJ js i := by
  rw [cntJ_split h i]
  have h1 := cntJ_nonneg (js := js.take k) (fun x hx => hf x (List.mem_of_mem_take hx)) i
  have h2 := cntJ_nonneg (js := js.drop (k + 1)) (fun x hx => hf x (List.mem_of_mem_drop hx)) i
  omega
/-- The accounts have under way what the jobs hold. -/
structure JInv (n q : Nat) (l : List Acc) (js : List Job) : Prop where
  len : l.length = n
  fl : ∀ (i : Nat) (x : Acc), l[i]? = some x → x 7 = cntJ js i
  fi : ∀ j ∈ js, Fine n j.s
  ok : Ok q l
theorem jinv_zero (n : Nat) : JInv n 0 (List.replicate n zero) [] := by
  refine ⟨List.length_replicate .., fun i x hx => ?_, fun j hj => by simp at hj, zero_ok n⟩
  rw [List.getElem?_replicate] at hx
  split at hx
  · injection hx with hx; subst hx; rfl
  · cases hx
theorem JInv.le {n q : Nat} {l : List Acc} {js : List Job} (h : JInv n q l js) {k : Nat} {j : Job} (hj : js[k]? = some j) : ∀ (i : Nat) (x : Acc), l[i]? = some x → cnt j.s i ≤ x 7 := fun i x hx => by
  rw [h.fl i x hx]; exact cntJ_le h.fi hj i
theorem JInv.move {n q f : Nat} {l : List Acc} {js : List Job} (h : JInv n q l js) {k : Nat} {j : Job} (hj : js[k]? = some j) (hf : f < 7) : moveE f l j.s = (mvAll f j.s l, 0) :=
  moveE_all hf (by rw [h.len]; exact h.fi j (List.mem_of_getElem? hj)) (h.le hj)
theorem JInv.drop {n q f : Nat} {l : List Acc} {js : List Job} (h : JInv n q l js) {k : Nat} {j : Job} (hj : js[k]? = some j) (hf : f < 7) : JInv n q (mvAll f j.s l) (js.take k ++ js.drop (k + 1)) := by
  refine ⟨by rw [mvAll_len]; exact h.len, fun i x hx => ?_, fun x hx => ?_, mvAll_ok hf (by rw [h.len]; exact h.fi j (List.mem_of_getElem? hj)) (h.le hj) h.ok⟩
  · rw [mvAll_get] at hx
    cases hl : l[i]? with
    | none => simp [hl] at hx
    | some y =>
      simp [hl] at hx
      subst hx
      rw [mv_at7 hf, h.fl i y hl, cntJ_split hj i, cntJ_append]
      omega
  · rcases List.mem_append.1 hx with h1 | h1
    · exact h.fi x (List.mem_of_mem_take h1)
    · exact h.fi x (List.mem_of_mem_drop h1)
theorem JInv.step {n q : Nat} {l : List Acc} {js : List Job} (h : JInv n q l js) {k p : Nat} {j j' : Job} (hj : js[k]? = some j) (hp : p < n) (he : j'.s = addS j.s p) : JInv n (q + 1) (stepA l p) (js.set k j') := by
  refine ⟨(step_len l p).trans h.len, fun i x hx => ?_, fun x hx => ?_, by have := step_ok h.ok p; rwa [Int.natCast_succ]⟩
  · rw [stepA, List.getElem?_modify] at hx
    rw [cntJ_set hj, he, addS_cnt]
    cases hl : l[i]? with
    | none => simp [hl] at hx
    | some y =>
      have := h.fl i y hl
      by_cases hk : p = i
      · simp [hk, hl] at hx
        subst hx
        rw [put_same, if_pos hk]; omega
      · simp [hk, hl] at hx
        subst hx
        rw [if_neg hk]; omega
  · rcases List.mem_or_eq_of_mem_set hx with h1 | h1
    · exact h.fi x h1
    · subst h1; rw [he]; exact addS_fine (h.fi j (List.mem_of_getElem? hj)) hp
theorem JInv.nil {n q : Nat} {l : List Acc} {js : List Job} (h : JInv n q l js) : JInv n q l (js ++ [⟨none, 0, 0, []⟩]) := by
  refine ⟨h.len, fun i x hx => by rw [cntJ_append]; simp [cntJ, cnt]; exact h.fl i x hx, fun x hx => ?_, h.ok⟩
  rcases List.mem_append.1 hx with h1 | h1
  · exact h.fi x h1
  · simp at h1; subst h1; exact Fine.nil
theorem JInv.mono {n q q' : Nat} {l : List Acc} {js : List Job} (h : JInv n q l js) (hq : q ≤ q') : JInv n q' l js := ⟨h.len, h.fl, h.fi, h.ok.le (by omega)⟩
end Go.Proofs.Ytignbncphdemlaa
