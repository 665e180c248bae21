/- A range over an iterator that would not end by itself: the loop's own word bounds the rounds. Conditions: as the law states. -/
import Derived.Test.YtbmembmiejmoaaaDoorKit2
import Derived.RangeFuncNested
import Derived.RangeFuncBound
import Derived.RangeFuncCalls
import Derived.RangeFuncLeaves
import Derived.Shelf.Abstract
import Derived.OwnWalkIn
import Derived.TacticsInMore
import Derived.LoopNIn
import Derived.LoopIn
namespace Go.Proofs.YtbmembmiejmoaaaDoor
open Go.RowKit Go.Shelf

/-- The iterator's word, for every loop whose rounds are fewer than N. -/
def SeqTo {α : Type} (F : Fence) (n : Nat) (P : Program) (g : Nat) (lb : Array Value) (encs : α → Array Value) (Kp : World → World → Prop) (S Sp : List α → Prop) (N : Nat) (w : World) : Prop :=
  ∀ (l : Nat) (J Jx : List α → World → Prop) (W : World), Below w.heap.size w W → (∀ pre W1, J pre W1 → pre.length < N) →
    (∀ pre x W1, J pre W1 → YieldAt F (n - 1) P l (encs x) W1 fun e W' =>
      (e = .returned (.bool true) ∧ J (pre ++ [x]) W' ∧ Kp W1 W') ∨ (e = .returned (.bool false) ∧ Jx (pre ++ [x]) W')) →
    (∀ pre A B, J pre A → Below A.heap.size A B → J pre B) → J [] W →
    CallsIn F n P g (#[.func (.yield l) #[] #[]] ++ lb) W fun e W' => (∃ v, e = .returned v) ∧ ((∃ xs, S xs ∧ J xs W') ∨ (∃ pre, Sp pre ∧ Jx pre W'))

/-- All blocks below n₀ lie as they lay, but for one. -/
structure Most (n₀ x : Nat) (W W' : World) : Prop where
  size : W.heap.size ≤ W'.heap.size
  same : ∀ k, k < n₀ → k ≠ x → W'.heap[k]? = W.heap[k]?
theorem Most.trans {n₀ x : Nat} {A B C : World} (h : Most n₀ x A B) (k : Most n₀ x B C) : Most n₀ x A C := ⟨Nat.le_trans h.size k.size, fun i h1 h2 => (k.same i h1 h2).trans (h.same i h1 h2)⟩
theorem Most.refl (n₀ x : Nat) (W : World) : Most n₀ x W W := ⟨Nat.le_refl _, fun _ _ _ => rfl⟩
theorem Most.of_below {n₀ x : Nat} {A B : World} (h : Below n₀ A B) : Most n₀ x A B := ⟨h.size, fun k hk _ => h.block k hk⟩
theorem Most.put {n₀ x l : Nat} {W : World} (o : Obj) (hl : n₀ ≤ l) (_ : l < W.heap.size) : Most n₀ x W (W.putObj l o) := ⟨by simp [World.putObj], fun k hk _ => World.putObj_heap_other (by omega)⟩
theorem Most.grown {n₀ x : Nat} {W W' : World} {row : Option Nat} (hg : W.grownBy W' row) (hr : ∀ k, row = some k → n₀ ≤ k ∨ k = x) (hs : n₀ ≤ W.heap.size) : Most n₀ x W W' :=
  ⟨hg.size, fun k hk hx => hg.block k (by omega) (fun e => by rcases hr k e.symm with h | h <;> omega)⟩
theorem Most.cell {n₀ x : Nat} {W W' : World} (h : Most n₀ x W W') {b o : Nat} (hb : b < n₀) (hx : b ≠ x) : W'.cell? ⟨b, o, none⟩ = W.cell? ⟨b, o, none⟩ := World.cell?_of_block (h.same b hb hx)

section
variable {F : Fence} {n : Nat} {P : Program} {w : World}
/-- The law. What the rounds are told of memory (I) is kept by the book-keeping, which is two blocks of its own. -/
theorem range_to {α : Type} {g : Operand} {ps : Array Tmp} {assign body : Code} {Q : Exit → Act → World → Prop} {a : Act} (hro : F.round = none) (h1 : 1 ≤ n) {gf : Nat} {lb : Array Value} (hg : a.eval g = .func (.func gf) #[] lb) (hFg : F.fn gf)
    (eg : ∀ args w, (callFunc gf args).run P w = .ok (.enter gf args) w) {encs : α → Array Value} {Kp : World → World → Prop} {S Sp : List α → Prop} {N : Nat} {w0 : World} (hKt : ∀ {A B C : World}, Kp A B → Kp B C → Kp A C) (hKb : ∀ (W : World) (l : Nat) (o : Obj), w.heap.size ≤ l → l < W.heap.size → Kp W (W.putObj l o))
    (hseq : SeqTo F (n - 1) P gf lb encs Kp S Sp N w0) (hb0 : Below w0.heap.size w0 w) (hps : ∀ x, (encs x).size = ps.size)
    (I : List α → World → Prop) (Ix : Code → List α → World → Prop) (hI : OwnFrom w.heap.size I) (hIx : ∀ c, OwnFrom w.heap.size (Ix c)) (hIb : ∀ pre A B, I pre A → Below A.heap.size A B → I pre B) (h0 : I [] w) (hN : ∀ pre W, I pre W → pre.length < N) (a₁ : α → Act)
    (hassign : ∀ (l : Nat) (x : α) (W : World) (K : Act → World → Prop), K (a₁ x) W →
      assign.wpIn (F.inRound l) (n - 1 - 1) P (Exit.then K (fun _ _ _ => False)) { tmps := (ps.zip (encs x)).foldl (fun t (p, v) => t.setIfInBounds p v) a.tmps, defers := [] } W)
    (hbody : ∀ (l : Nat) (pre : List α) (x : α) (W : World), I pre W → body.wpIn (F.inRound l) (n - 1 - 1) P (ownPostG w.heap.size Kp I Ix (pre ++ [x]) W) (a₁ x) W)
    (hdone : ∀ (D : Nat) (xs : List α) (W : World), w.heap.size ≤ D → S xs → I xs W → W.heap[D]? = some (.deferred (some [])) → Q .normal { a with defers := { target := .collected D, args := #[] } :: a.defers } W)
    (hstop : ∀ (D : Nat) (c : Code) (pre : List α) (W : World), w.heap.size ≤ D → Sp pre → Ix c pre W → W.heap[D]? = some (.deferred (some [])) → c.wpIn F n P Q { a with defers := { target := .collected D, args := #[] } :: a.defers } W) :
    (Code.rangeFunc g ps assign body).wpIn F n P Q a w := by
  apply wpIn_rangeFunc
  intro fn hfn
  rw [hro]
  generalize hL : w.heap.size + 1 = L
  have hbk : ∀ (st : LoopState) (pe : Option Code), ∃ r : Loop, r = { state := st, pending := pe, fn := fn, tmps := a.tmps, params := ps, assign := assign, body := body, defers := w.heap.size } := fun _ _ => ⟨_, rfl⟩
  let R : LoopState → Option Code → Loop := fun st pe => { state := st, pending := pe, fn := fn, tmps := a.tmps, params := ps, assign := assign, body := body, defers := w.heap.size }
  -- the two blocks of the book-keeping
  let Bk : LoopState → Option Code → World → Prop := fun st pe W => W.heap[L]? = some (.loop (R st pe)) ∧ W.heap[w.heap.size]? = some (.deferred (some []))
  let V := (w.alloc (.deferred (some []))).alloc (.loop (R .ready none))
  have hV : Bk .ready none V := ⟨by have h := heap_new (w.alloc (.deferred (some []))) (.loop (R .ready none)); rw [World.size_alloc, hL] at h; exact h, (Below.heap_alloc _ _ _ (by simp)).trans (heap_new w _)⟩
  have put : ∀ {st : LoopState} {pe : Option Code} (st' : LoopState) (pe' : Option Code) {W : World}, Bk st pe W → Bk st' pe' (W.putObj L (.loop (R st' pe'))) := fun st' pe' W h =>
    ⟨World.putObj_heap_same (Array.getElem?_eq_some_iff.1 h.1).1, (World.putObj_heap_other (by omega)).trans h.2⟩
  have kept : ∀ {st : LoopState} {pe : Option Code} {W W' : World}, Bk st pe W → KeepsFrom w.heap.size W W' → Bk st pe W' := fun h k => ⟨k.same _ _ (by omega) h.1 rfl, k.same _ _ (Nat.le_refl _) h.2 rfl⟩
  have bel : ∀ {st : LoopState} {pe : Option Code} {W W' : World}, Bk st pe W → Below W.heap.size W W' → Bk st pe W' := fun h k => ⟨(k.block _ (Array.getElem?_eq_some_iff.1 h.1).1).trans h.1, (k.block _ (Array.getElem?_eq_some_iff.1 h.2).1).trans h.2⟩
  have bput : ∀ {st : LoopState} {pe : Option Code} {W : World} (o : Obj), Bk st pe W → Kp W (W.putObj L o) := fun o h => hKb _ _ _ (by omega) (Array.getElem?_eq_some_iff.1 h.1).1
  refine ⟨L, [{ target := .collected w.heap.size, args := #[] }], V, { target := .fn (.func gf) lb, args := #[.func (.yield L) #[] #[]] }, V, gf, #[.func (.yield L) #[] #[]] ++ lb, V, ?_, ?_, ?_, ?_, fun _ => h1, ?_⟩
  · subst hL; exact run_enterLoop_outer _ _ _ _ _
  · simp only [resolve, hg]
    simp [go_sem]
  · intro f hf
    simp [Target.leads] at hf
    subst hf
    exact hFg
  · simp [invoke, go_sem, eg]
  have hround : ∀ pre x W1, (I pre W1 ∧ Bk .ready none W1) → YieldAt F (n - 1 - 1) P L (encs x) W1 fun e W' =>
      (e = .returned (.bool true) ∧ (I (pre ++ [x]) W' ∧ Bk .ready none W') ∧ Kp W1 W') ∨ (e = .returned (.bool false) ∧ ∃ c, Ix c (pre ++ [x]) W' ∧ Bk .done (some c) W') := by
    rintro pre x W ⟨hi, hbW⟩
    refine ⟨fn, _, assign, body, run_yield (P := P) (args := encs x) hbW.1 (hps x), roundIn_of_wpIn hfn (hassign _ x W _ ?_)⟩
    have hb2 := put .busy none hbW
    refine ⟨_, run_beginRound hbW.1 rfl, wpIn_mono (hbody L pre x _ (hI.putObj _ hi (by omega) hbW.1 rfl)) ?_⟩
    have over : ∀ (jump : Option Code) (W3 : World), KeepsFrom w.heap.size (W.putObj L (.loop (R .busy none))) W3 →
        (Instr.endRound L jump).run P W3 = .ok (.bool jump.isNone) (W3.putObj L (.loop (R (if jump.isNone then .ready else .done) jump))) ∧ Bk (if jump.isNone then .ready else .done) jump (W3.putObj L (.loop (R (if jump.isNone then .ready else .done) jump))) ∧ Bk .busy none W3 := fun jump W3 k =>
      ⟨run_endRound (P := P) jump (kept hb2 k).1, put _ _ (kept hb2 k), kept hb2 k⟩
    have leave : ∀ (c : Code) (W3 : World), KeepsFrom w.heap.size (W.putObj L (.loop (R .busy none))) W3 → Ix c (pre ++ [x]) W3 → ∃ v W', (Instr.endRound L (some c)).run P W3 = .ok v W' ∧ ((Ending.returned v = .returned (.bool true) ∧ (I (pre ++ [x]) W' ∧ Bk .ready none W') ∧ Kp W W') ∨ (Ending.returned v = .returned (.bool false) ∧ ∃ c, Ix c (pre ++ [x]) W' ∧ Bk .done (some c) W')) := fun c W3 k hx =>
      ⟨_, _, (over (some c) W3 k).1, .inr ⟨rfl, c, (hIx c).putObj _ hx (by omega) (over (some c) W3 k).2.2.1 rfl, (over (some c) W3 k).2.1⟩⟩
    intro e a3 W3 hp
    match e, hp with
    | .normal, ⟨k, kp, hi3⟩ =>
      obtain ⟨hr, hb4, hb3⟩ := over none W3 k
      exact ⟨_, _, hr, .inl ⟨rfl, ⟨hI.putObj _ hi3 (by omega) hb3.1 rfl, hb4⟩, hKt (hKt (bput _ hbW) kp) (bput _ hb3)⟩⟩
    | .ret, ⟨k, hx⟩ => exact leave _ _ k hx
    | .exit id, ⟨k, hx⟩ => exact leave _ _ k hx
    | .goto t, ⟨k, hx⟩ => exact leave _ _ k hx
  refine (hseq L (fun pre W => I pre W ∧ Bk .ready none W) (fun pre W => ∃ c, Ix c pre W ∧ Bk .done (some c) W) V (hb0.trans ((((Below.refl _ w).alloc (Nat.le_refl _) _).alloc (by simp) _).mono hb0.size))
    (fun pre W h => hN pre W h.1) hround (fun pre A B h hb => ⟨hIb pre A B h.1 hb, bel h.2 hb⟩) ⟨hI.alloc _ (hI.alloc _ h0), hV⟩).mono ?_
  rintro e W2 ⟨⟨v, rfl⟩, (⟨xs, hS, hi, hb⟩ | ⟨pre, hSp, c, hx, hb⟩)⟩
  · exact ⟨none, _, run_endLoop (P := P) hb.1 (by simp [R]), hdone _ xs _ (Nat.le_refl _) hS (hI.putObj _ hi (by omega) hb.1 rfl) ((World.putObj_heap_other (by omega)).trans hb.2)⟩
  · exact ⟨some c, _, run_endLoop (P := P) hb.1 (by simp [R]), hstop _ c pre _ (Nat.le_refl _) hSp ((hIx c).putObj _ hx (by omega) hb.1 rfl) ((World.putObj_heap_other (by omega)).trans hb.2)⟩
end
end Go.Proofs.YtbmembmiejmoaaaDoor
