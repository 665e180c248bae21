/- A sequencer in a variable: what its training leaves. -/
import Derived.Test.YtbmembmiejmoaaaDoorM
import Derived.Test.YtbmembmiejmoaaaDoorPlain2
import Derived.Deep.LoopGhost
namespace Go.Proofs.YtbmembmiejmoaaaDoor
open Go.RowKit

theorem Sl.set_pos {α : Type} {w : World} {B sz : Nat} {cells : α → List Value} {A : Option Addr} {n : Nat} {l : List α} (h : Sl w B sz cells A n l) {p : Addr} (hp : 0 < n → ∀ ad, A = some ad → ad.block ≠ p.block) (u : Value) : Sl (w.setCell p u) B sz cells A n l :=
  ⟨h.len, fun hn => by
    obtain ⟨ab, ao, e, hlt, hc⟩ := h.at_ hn
    refine ⟨ab, ao, e, hlt, fun i x hx j u hu => (World.cell?_setCell_other w p _ _ (fun e2 => hp hn _ e (by rw [e2]))).trans (hc i x hx j u hu)⟩⟩
def i8Cells (x : Int) : List Value := [.int .i8 x]
/-- A variable that holds a sequencer. -/
structure Var (w : World) (p : Nat) (A : Option Addr) (n c : Nat) (ts : List Trk) : Prop where
  cell : w.cell? ⟨p, 0, none⟩ = some (.slice A n c)
  fr : w.frozen? ⟨p, 0, none⟩ = false
  sl : Sl w w.heap.size 3 Trk.cells A n ts
  ne : 0 < n → ∀ ad, A = some ad → ad.block ≠ p
  lt : p < w.heap.size
theorem Var.below {w w' : World} {p : Nat} {A : Option Addr} {n c : Nat} {ts : List Trk} (h : Var w p A n c ts) (hb : Below w.heap.size w w') : Var w' p A n c ts :=
  ⟨(belc hb h.lt).trans h.cell, (belf hb h.lt).trans h.fr, h.sl.up hb, h.ne, by have := hb.size; have := h.lt; omega⟩
/-- The variable takes what was made. -/
theorem Var.put {w w' : World} {p : Nat} {A A' : Option Addr} {n c n' c' : Nat} {ts ts' : List Trk} (h : Var w p A n c ts) (hb : Below w.heap.size w w') (hs : Sl w' w'.heap.size 3 Trk.cells A' n' ts') (hlo : ∀ ad, A' = some ad → ad.block ≠ p) :
    Var (w'.setCell ⟨p, 0, none⟩ (.slice A' n' c')) p A' n' c' ts' := by
  have hl := h.lt
  have hz := hb.size
  have h2 := h.below hb
  exact ⟨World.cell?_setCell_same _ _ _ h2.cell, by rw [World.frozen?_setCell]; exact h2.fr, (Sl.set_pos (p := ⟨p, 0, none⟩) hs (fun _ ad had => hlo ad had) _).mono (by simp), fun _ ad had => hlo ad had, by simp; omega⟩
theorem Var.new (w : World) : Var (w.alloc (.cells #[.slice none 0 0] 26)) w.heap.size none 0 0 [] :=
  ⟨by simp, by simp, Sl.nil, fun h => absurd h (by omega), by simp⟩
end Go.Proofs.YtbmembmiejmoaaaDoor
