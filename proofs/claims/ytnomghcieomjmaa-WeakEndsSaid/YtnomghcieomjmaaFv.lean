/- A state stored into its variable. -/
import Derived.Test.YtnomghcieomjmaaRn
namespace Go.Proofs.Ytnomghcieomjmaa
open Go.RowKit

theorem StAt.like {w : World} {b n c : Nat} {mem mem' : Nat → Int} {A : Option Addr} (h : StAt w b mem A n c) (h0 : mem 0 = mem' 0) (h1 : mem 1 = mem' 1) (h2 : mem 2 = mem' 2) (h3 : mem 3 = mem' 3) : StAt w b mem' A n c := by
  refine ⟨?_, h.fr⟩
  have := h.at_
  unfold stCells at this ⊢
  rw [h0, h1, h2, h3] at this
  exact this
/-- A state's five cells, stored one after the other. -/
theorem StAt.five {w : World} {b n c : Nat} {mem : Nat → Int} {A : Option Addr} (h : StAt w b mem A n c) (mem' : Nat → Int) (A' : Option Addr) (n' c' : Nat) : StAt (((((w.setCell ⟨b, 0, none⟩ (.int .i64 (mem' 0))).setCell ⟨b, 1, none⟩ (.int .i64 (mem' 1))).setCell ⟨b, 2, none⟩ (.int .i64 (mem' 2))).setCell ⟨b, 3, none⟩ (.int .i64 (mem' 3))).setCell ⟨b, 4, none⟩ (.slice A' n' c')) b mem' A' n' c' := by
  refine (StAt.setS ((((h.setMem (i := 0) (by decide) _).setMem (i := 1) (by decide) _).setMem (i := 2) (by decide) _).setMem (i := 3) (by decide) _) _ _ _).like ?_ ?_ ?_ ?_ <;> simp [upd]
theorem grown_one (w : World) (b o : Nat) (v : Value) : w.grownBy (w.setCell ⟨b, o, none⟩ v) (some b) := ⟨rfl, rfl, rfl, by simp, fun k hk hkr => Below.heap_setCell w ⟨b, o, none⟩ v k (fun e => hkr (by rw [e]))⟩
theorem grown_five (w : World) (b : Nat) (v0 v1 v2 v3 v4 : Value) : w.grownBy (((((w.setCell ⟨b, 0, none⟩ v0).setCell ⟨b, 1, none⟩ v1).setCell ⟨b, 2, none⟩ v2).setCell ⟨b, 3, none⟩ v3).setCell ⟨b, 4, none⟩ v4) (some b) :=
  ((((grown_one w b 0 v0).trans (grown_one _ b 1 v1)).trans (grown_one _ b 2 v2)).trans (grown_one _ b 3 v3)).trans (grown_one _ b 4 v4)
end Go.Proofs.Ytnomghcieomjmaa
