/- Two slices of the same records are the same: same_accounts. -/
import Derived.Test.YtignbncphdemlaaKit2
import Derived.Test.YtignbncphdemlaaPlain
namespace Go.Proofs.Ytignbncphdemlaa
open Go.RowKit
theorem eq_six (a b c d e f : Int) (w : World) : (Op.equalIn 9999 39 (.agg #[.int .i64 a, .int .i64 b, .int .i64 c, .int .i64 d, .int .i64 e, .int .i64 f]) (.agg #[.int .i64 a, .int .i64 b, .int .i64 c, .int .i64 d, .int .i64 e, .int .i64 f])).run Try.prog w = .ok true w := by
  have u3 := Try.underlying3
  have a3 := Try.isAgg3
  have z3 := Try.sizeOf3
  rw [show (9999 : Nat) = 9998 + 1 from rfl, Op.equalIn]
  simp only [Sem.run_bind, run_underlying Try.underlying39, Result.andThen_ok]
  simp only [Std.Legacy.Range.forIn_eq_forIn_range', Std.Legacy.Range.size, Nat.sub_zero, Nat.add_sub_cancel, Nat.div_one, List.range'_succ, List.range'_zero, List.forIn_cons, List.forIn_nil]
  go_simp
set_option maxHeartbeats 400000 in
theorem same_accounts (A : Option Addr) (n c : Nat) (A' : Option Addr) (c' : Nat) (l : List Acc) (w : World) (hs : Sl w w.heap.size 8 Acc.cells A n l) (hs' : Sl w w.heap.size 8 Acc.cells A' n l) (hn : n ≤ 1000000) :
    Calls Try.prog 16 #[.slice A n c, .slice A' n c'] w fun e w' => e = .returned (.bool true) ∧ Below w.heap.size w w' := by
  have HN := Lib.hid hs.len
  go_enter Try.func16, Try.ntmps16
  go_wp2_with fail
  go_loopw [5] (fun i wr => ∃ k : Nat, k ≤ n ∧ i = .int .i64 k ∧ Below w.heap.size w wr) (fun i _ => n - (intOf i).toNat)
  case atStart => exact ⟨0, Nat.zero_le _, rfl, Below.refl _ _⟩
  case round =>
    obtain ⟨k, hk, rfl, hbw⟩ := hrel
    by_cases hlt : k < n
    · obtain ⟨ab, ao, rfl, hlo, hat⟩ := hs.at_ (by omega)
      obtain ⟨bb, bo, rfl, hlo', hat'⟩ := hs'.at_ (by omega)
      obtain ⟨t, ht⟩ : ∃ t, l[k]? = some t := ⟨_, List.getElem?_eq_getElem (by rw [HN.out]; exact hlt)⟩
      have hc : ∀ (j : Nat) (u : Value), (Acc.cells t)[j]? = some u → wr.cell? ⟨ab, ao + (k * 8 + j), none⟩ = some u := fun j u hu => (belc hbw hlo).trans (hat k t ht j u hu)
      have hd : ∀ (j : Nat) (u : Value), (Acc.cells t)[j]? = some u → wr.cell? ⟨bb, bo + (k * 8 + j), none⟩ = some u := fun j u hu => (belc hbw hlo').trans (hat' k t ht j u hu)
      have hc0 : wr.cell? ⟨ab, ao + k * 8, none⟩ = some (.int .i64 (t 0)) := hc 0 _ rfl
      have hc1 : wr.cell? ⟨ab, ao + k * 8 + 1, none⟩ = some (.int .i64 (t 1)) := hc 1 _ rfl
      have hc2 : wr.cell? ⟨ab, ao + k * 8 + 2, none⟩ = some (.int .i64 (t 2)) := hc 2 _ rfl
      have hc3 : wr.cell? ⟨ab, ao + k * 8 + 3, none⟩ = some (.int .i64 (t 3)) := hc 3 _ rfl
      have hc4 : wr.cell? ⟨ab, ao + k * 8 + 4, none⟩ = some (.int .i64 (t 4)) := hc 4 _ rfl
      have hc5 : wr.cell? ⟨ab, ao + k * 8 + 5, none⟩ = some (.int .i64 (t 5)) := hc 5 _ rfl
      have hc6 : wr.cell? ⟨ab, ao + k * 8 + 6, none⟩ = some (.int .i64 (t 6)) := hc 6 _ rfl
      have hc7 : wr.cell? ⟨ab, ao + k * 8 + 7, none⟩ = some (.int .i64 (t 7)) := hc 7 _ rfl
      have hd0 : wr.cell? ⟨bb, bo + k * 8, none⟩ = some (.int .i64 (t 0)) := hd 0 _ rfl
      have hd1 : wr.cell? ⟨bb, bo + k * 8 + 1, none⟩ = some (.int .i64 (t 1)) := hd 1 _ rfl
      have hd2 : wr.cell? ⟨bb, bo + k * 8 + 2, none⟩ = some (.int .i64 (t 2)) := hd 2 _ rfl
      have hd3 : wr.cell? ⟨bb, bo + k * 8 + 3, none⟩ = some (.int .i64 (t 3)) := hd 3 _ rfl
      have hd4 : wr.cell? ⟨bb, bo + k * 8 + 4, none⟩ = some (.int .i64 (t 4)) := hd 4 _ rfl
      have hd5 : wr.cell? ⟨bb, bo + k * 8 + 5, none⟩ = some (.int .i64 (t 5)) := hd 5 _ rfl
      have hd6 : wr.cell? ⟨bb, bo + k * 8 + 6, none⟩ = some (.int .i64 (t 6)) := hd 6 _ rfl
      have hd7 : wr.cell? ⟨bb, bo + k * 8 + 7, none⟩ = some (.int .i64 (t 7)) := hd 7 _ rfl
      clear hat hat' ht hc hd
      have e6 := eq_six (t 1) (t 2) (t 3) (t 4) (t 5) (t 6)
      go_wp2
      go_quiet (fail)
      go_wp2
      go_roundw
      case rel => exact ⟨k + 1, by omega, by go_num, below_drewN hbw _⟩
      case measure => simp [intOf]; omega
    · go_wp2
      go_ret
      exact ⟨rfl, hbw⟩
end Go.Proofs.Ytignbncphdemlaa
