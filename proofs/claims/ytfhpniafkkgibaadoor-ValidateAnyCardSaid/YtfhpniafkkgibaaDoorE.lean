/- Copies of values that the laws keep. -/
import Derived.Test.YtfhpniafkkgibaaDoorD
import Derived.Deep.RegionLaw
namespace Go.Proofs.YtfhpniafkkgibaaDoor
open Go.RowKit

set_option maxHeartbeats 4000000 in
theorem values_any (A : Option Addr) (n c : Nat) (s : List Val) (w : World) (hx : Sl w w.heap.size 2 Val.cells A n s) (hn : n ≤ 8796093021952) :
    Calls Tryd.prog 20 #[.slice A n c] w fun e w' => ∃ (A' : Option Addr) (c' : Nat), e = .returned (.slice A' n c') ∧ Hid (w'.ownsRow w.heap.size 26 2 (.slice A' n c') n (s.flatMap Val.cells)) ∧ Below w.heap.size w w' := by
  obtain ⟨i0, hi, hz0, hz1, hz2⟩ := info_parts CloneVal.infoE
  have HS := Lib.hid (hx.src Val.size)
  have HL := Lib.hid hx.len
  clear hx
  go_enter Tryd.func20, Tryd.ntmps20
  go_wp2_with (at_builtin; refine wpList_append_any rfl _ _ 37 rfl w.heap.size 26 i0 _ 2 16 Tryd.underlying37 hi hz0 hz1 hz2 rfl (by decide) (.slice none 0 0) 0 [] (by simp [Act.eval]) (World.ownsRow_nil _ _ _ _) A n c (s.flatMap Val.cells) (by simp [Act.eval]) HS.out.1 (by rw [flat_len Val.size, HL.out]) HS.out.2 (val_one s) (by unfold maxLen; omega) (by omega) (Nat.le_refl _) ?_; intro A3 c3 w3 hown3 hgr3 hA3; have H3 := Lib.hid hown3; have hb3 : Below w.heap.size w w3 := (Below.refl _ _).grown hgr3 (Nat.le_refl _) (fun k hk => by cases hk); clear hown3 hgr3 hA3)
  go_ret
  exact ⟨A3, c3, by simp, Lib.hid (by simpa using own_eq (Nat.zero_add n) H3.out), hb3⟩
end Go.Proofs.YtfhpniafkkgibaaDoor
