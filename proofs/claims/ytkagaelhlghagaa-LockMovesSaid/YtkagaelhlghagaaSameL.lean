/- Two slices of the same records are the same: same_locks. -/
import Derived.Test.YtkagaelhlghagaaKit2
import Derived.Test.YtkagaelhlghagaaPlain
namespace Go.Proofs.Ytkagaelhlghagaa
open Go.RowKit

set_option maxHeartbeats 400000 in
theorem same_locks (A : Option Addr) (n c : Nat) (A' : Option Addr) (c' : Nat) (l : List Lk) (w : World) (hs : Sl w w.heap.size 2 Lk.cells A n l) (hs' : Sl w w.heap.size 2 Lk.cells A' n l) (hn : n ≤ 1000000) :
    Calls Try.prog 13 #[.slice A n c, .slice A' n c'] w fun e w' => e = .returned (.bool true) ∧ Below w.heap.size w w' := by
  have HN := Lib.hid hs.len
  go_enter Try.func13, Try.ntmps13
  go_wp2_with fail
  go_loopw [5] (fun i wr => ∃ k : Nat, k ≤ n ∧ i = .int .i64 k ∧ Below w.heap.size w wr) (fun i _ => n - (intOf i).toNat)
  case atStart => exact ⟨0, Nat.zero_le _, rfl, Below.refl _ _⟩
  case round =>
    obtain ⟨k, hk, rfl, hbw⟩ := hrel
    by_cases hlt : k < n
    · obtain ⟨ab, ao, rfl, hlo, hat⟩ := hs.at_ (by omega)
      obtain ⟨bb, bo, rfl, hlo', hat'⟩ := hs'.at_ (by omega)
      obtain ⟨t, ht⟩ : ∃ t, l[k]? = some t := ⟨_, List.getElem?_eq_getElem (by rw [HN.out]; exact hlt)⟩
      have hc : ∀ (j : Nat) (u : Value), (Lk.cells t)[j]? = some u → wr.cell? ⟨ab, ao + (k * 2 + j), none⟩ = some u := fun j u hu => (belc hbw hlo).trans (hat k t ht j u hu)
      have hd : ∀ (j : Nat) (u : Value), (Lk.cells t)[j]? = some u → wr.cell? ⟨bb, bo + (k * 2 + j), none⟩ = some u := fun j u hu => (belc hbw hlo').trans (hat' k t ht j u hu)
      have hc0 : wr.cell? ⟨ab, ao + k * 2, none⟩ = some (.int .i64 t.number) := hc 0 _ rfl
      have hc1 : wr.cell? ⟨ab, ao + k * 2 + 1, none⟩ = some (.int .i64 t.holder) := hc 1 _ rfl
      have hd0 : wr.cell? ⟨bb, bo + k * 2, none⟩ = some (.int .i64 t.number) := hd 0 _ rfl
      have hd1 : wr.cell? ⟨bb, bo + k * 2 + 1, none⟩ = some (.int .i64 t.holder) := hd 1 _ rfl
      clear hat hat' ht hc hd

      go_wp2
      go_quiet (fail)
      go_wp2
      go_roundw
      case rel => exact ⟨k + 1, by omega, by go_num, below_drewN hbw _⟩
      case measure => simp [intOf]; omega
    · go_wp2
      go_ret
      exact ⟨rfl, hbw⟩
end Go.Proofs.Ytkagaelhlghagaa
