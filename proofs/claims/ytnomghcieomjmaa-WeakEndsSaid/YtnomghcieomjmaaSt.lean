/- A state's variable: laws. -/
import Derived.Test.YtnomghcieomjmaaI
import Derived.Test.YtnomghcieomjmaaRow
namespace Go.Proofs.Ytnomghcieomjmaa
open Go.RowKit

/-- A state as a value. -/
abbrev stVal (mem : Nat → Int) (A : Option Addr) (n c : Nat) : Value := .agg #[.int .i64 (mem 0), .int .i64 (mem 1), .int .i64 (mem 2), .int .i64 (mem 3), .slice A n c]
def stCells (mem : Nat → Int) (A : Option Addr) (n c : Nat) : List Value := [.int .i64 (mem 0), .int .i64 (mem 1), .int .i64 (mem 2), .int .i64 (mem 3), .slice A n c]
structure StAt (w : World) (b : Nat) (mem : Nat → Int) (A : Option Addr) (n c : Nat) : Prop where
  at_ : w.rangeAt b 0 (stCells mem A n c)
  fr : ∀ j, w.frozen? ⟨b, j, none⟩ = false
theorem StAt.m {w : World} {b n c : Nat} {mem : Nat → Int} {A : Option Addr} (h : StAt w b mem A n c) {i : Nat} (hi : i < 4) : w.cell? ⟨b, i, none⟩ = some (.int .i64 (mem i)) := by
  have := h.at_ i (.int .i64 (mem i)) (by match i, hi with
    | 0, _ => rfl
    | 1, _ => rfl
    | 2, _ => rfl
    | 3, _ => rfl)
  simpa using this
theorem StAt.s {w : World} {b n c : Nat} {mem : Nat → Int} {A : Option Addr} (h : StAt w b mem A n c) : w.cell? ⟨b, 4, none⟩ = some (.slice A n c) := by
  have := h.at_ 4 _ rfl
  simpa using this
theorem StAt.below {w w' : World} {b n c : Nat} {mem : Nat → Int} {A : Option Addr} (h : StAt w b mem A n c) (hb : Below w.heap.size w w') (hl : b < w.heap.size) : StAt w' b mem A n c :=
  ⟨fun j v hv => (belc hb hl).trans (h.at_ j v hv), fun j => (belf hb hl).trans (h.fr j)⟩
theorem StAt.grown {w w' : World} {b n c : Nat} {mem : Nat → Int} {A : Option Addr} {r : Option Nat} (h : StAt w b mem A n c) (hb : w.grownBy w' r) (hl : b < w.heap.size) (hne : r ≠ some b) : StAt w' b mem A n c :=
  ⟨fun j v hv => ((gcell hb).1 b _ hl (fun e => hne e.symm)).trans (h.at_ j v hv), fun j => ((gcell hb).2 b _ hl (fun e => hne e.symm)).trans (h.fr j)⟩
theorem StAt.new (w : World) (mem : Nat → Int) (A : Option Addr) (n c : Nat) : StAt (w.alloc (.cells #[.int .i64 (mem 0), .int .i64 (mem 1), .int .i64 (mem 2), .int .i64 (mem 3), .slice A n c] 31)) w.heap.size mem A n c :=
  ⟨fun j v hv => by rw [Nat.zero_add, cell_new _ _ _ _ _ rfl]; simpa [stCells] using hv, fun j => frozen_new _ _ _ _ _ rfl⟩
def upd {β : Type} (f : Nat → β) (i : Nat) (v : β) : Nat → β := fun j => if j = i then v else f j
theorem upd_same {β : Type} (f : Nat → β) (i : Nat) (v : β) : upd f i v i = v := by simp [upd]
theorem StAt.setMem {w : World} {b n c : Nat} {mem : Nat → Int} {A : Option Addr} (h : StAt w b mem A n c) {i : Nat} (hi : i < 4) (v : Int) : StAt (w.setCell ⟨b, i, none⟩ (.int .i64 v)) b (upd mem i v) A n c := by
  refine ⟨fun j u hu => ?_, fun j => by simpa using h.fr j⟩
  rw [Nat.zero_add]
  by_cases hji : j = i
  · subst hji
    rw [World.cell?_setCell_same _ _ _ (h.m hi)]
    match j, hi with
    | 0, _ => simpa [stCells, upd] using hu
    | 1, _ => simpa [stCells, upd] using hu
    | 2, _ => simpa [stCells, upd] using hu
    | 3, _ => simpa [stCells, upd] using hu
  · rw [set_other _ _ _ _ (by simp <;> exact hji)]
    have := h.at_ j u (by
      match j, hji, hu with
      | 0, hji, hu => simpa [stCells, upd, hji] using hu
      | 1, hji, hu => simpa [stCells, upd, hji] using hu
      | 2, hji, hu => simpa [stCells, upd, hji] using hu
      | 3, hji, hu => simpa [stCells, upd, hji] using hu
      | 4, hji, hu => simpa [stCells] using hu
      | j + 5, _, hu => simp [stCells] at hu)
    rwa [Nat.zero_add] at this
theorem StAt.setS {w : World} {b n c : Nat} {mem : Nat → Int} {A : Option Addr} (h : StAt w b mem A n c) (A' : Option Addr) (n' c' : Nat) : StAt (w.setCell ⟨b, 4, none⟩ (.slice A' n' c')) b mem A' n' c' := by
  refine ⟨fun j u hu => ?_, fun j => by simpa using h.fr j⟩
  rw [Nat.zero_add]
  by_cases hji : j = 4
  · subst hji
    rw [World.cell?_setCell_same _ _ _ h.s]
    simpa [stCells] using hu
  · rw [set_other _ _ _ _ (by simp <;> exact hji)]
    have := h.at_ j u (by
      match j, hji, hu with
      | 0, _, hu => simpa [stCells] using hu
      | 1, _, hu => simpa [stCells] using hu
      | 2, _, hu => simpa [stCells] using hu
      | 3, _, hu => simpa [stCells] using hu
      | 4, hji, _ => exact absurd rfl hji
      | j + 5, _, hu => simp [stCells] at hu)
    rwa [Nat.zero_add] at this
theorem StAt.other {w : World} {b n c : Nat} {mem : Nat → Int} {A : Option Addr} (h : StAt w b mem A n c) {p : Addr} (hp : p.block ≠ b) (v : Value) : StAt (w.setCell p v) b mem A n c :=
  ⟨fun j u hu => by rw [set_other _ _ _ _ (fun e => hp (by have := congrArg Addr.block e; simpa using this))]; exact h.at_ j u hu, fun j => by simpa using h.fr j⟩

theorem st_agg : (Try.prog.info? 31).map (·.size) = some 5 := by kernel_rfl
theorem wpList_load_st {ops : Array Oper} {rest : List Oper} {op : Oper} {a : Act} {w : World} {Q : Exit → Act → World → Prop} (hgd : op.guard = none) (x : Operand) (ho : op.op = .load 31 x)
    {b n c : Nat} {mem : Nat → Int} {A : Option Addr} (hx : a.eval x = .pointer (some ⟨b, 0, none⟩)) (hc : StAt w b mem A n c) (h : wpList Try.prog ops Q rest (a.put op.dst (stVal mem A n c)) w) : wpList Try.prog ops Q (op :: rest) a w :=
  wpList_load_mid hgd _ x ho b 0 hx (stCells mem A n c) _ hc.at_ Try.underlying31 rfl st_agg h
theorem wpList_store_st {ops : Array Oper} {rest : List Oper} {op : Oper} {a : Act} {w : World} {Q : Exit → Act → World → Prop} (hgd : op.guard = none) (x y : Operand) (ho : op.op = .store 31 x y)
    {b n0 c0 n c : Nat} {mem0 mem : Nat → Int} {A0 A : Option Addr} (hx : a.eval x = .pointer (some ⟨b, 0, none⟩)) (hy : a.eval y = stVal mem A n c) (hc : StAt w b mem0 A0 n0 c0)
    (h : ∀ w', StAt w' b mem A n c → w.grownBy w' (some b) → wpList Try.prog ops Q rest (a.put op.dst undef) w') : wpList Try.prog ops Q (op :: rest) a w := by
  have hth : w.there b 0 5 := fun j hj => ⟨by
    match j, hj with
    | 0, _ => rw [hc.at_ 0 _ rfl]; rfl
    | 1, _ => rw [hc.at_ 1 _ rfl]; rfl
    | 2, _ => rw [hc.at_ 2 _ rfl]; rfl
    | 3, _ => rw [hc.at_ 3 _ rfl]; rfl
    | 4, _ => rw [hc.at_ 4 _ rfl]; rfl, by rw [Nat.zero_add]; exact hc.fr j⟩
  refine wpList_store_mid hgd _ x y ho b 0 (stCells mem A n c).toArray hx hy hth st_agg (by simp [stCells, Value.oneCell']) (h _ ⟨World.rangeAt_setCells_same _ _ _ _ hth, fun j => by rw [World.frozen?_setCells]; exact hc.fr j⟩ (grown_setCells _ _ _ _))
/-- The results: a state in a variable, and a number. -/
theorem results_st {fn : Func} {p u : Tmp} {tmps : Array Value} {w : World} {b n c : Nat} {mem : Nat → Int} {A : Option Addr} (hf : fn.results = #[.cell p 31, .tmp u]) (hp : tmps.getD p undef = .pointer (some ⟨b, 0, none⟩)) (h : StAt w b mem A n c) :
    (results fn tmps).run Try.prog w = .ok (.tuple #[stVal mem A n c, tmps.getD u undef]) w := by
  rw [results_cell_tmp hf, hp]
  have h1 := run_loadVar_mid (P := Try.prog) w b 0 31 (stCells mem A n c) _ h.at_ Try.underlying31 rfl st_agg
  simp [asAddr, Result.andThen, h1, stCells]
theorem results_st1 {fn : Func} {p : Tmp} {tmps : Array Value} {w : World} {b n c : Nat} {mem : Nat → Int} {A : Option Addr} (hf : fn.results = #[.cell p 31]) (hp : tmps.getD p undef = .pointer (some ⟨b, 0, none⟩)) (h : StAt w b mem A n c) :
    (results fn tmps).run Try.prog w = .ok (stVal mem A n c) w := by
  have h1 := run_loadVar_mid (P := Try.prog) w b 0 31 (stCells mem A n c) _ h.at_ Try.underlying31 rfl st_agg
  have hp' : tmps[p]?.getD undef = .pointer (some ⟨b, 0, none⟩) := by simpa using hp
  simp [results, hf, hp', asAddr, h1, stCells]
end Go.Proofs.Ytnomghcieomjmaa
