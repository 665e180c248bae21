/- SequenceLinks, walked. -/
import Derived.Test.YtbmembmiejmoaaaDoorM
namespace Go.Proofs.YtbmembmiejmoaaaDoor
open Go.RowKit

set_option maxRecDepth 100000 in
set_option maxHeartbeats 2000000 in
theorem links_any (A : Option Addr) (n c : Nat) (l : List Tk) (w : World) (ht : Tab w) (hs : Sl w w.heap.size 48 Tk.cells A n l) (hn : n ≤ 9223372036854775807) :
    Calls Tryd.prog 4 #[.slice A n c] w fun e w' => e = .returned (.bool true) ∧ Below w.heap.size w w' := by
  have HL := Lib.hid hs.len
  go_enter Tryd.func4, Tryd.ntmps4
  go_wp2_with fail
  refine (sane_any w ht).mono ?_
  rintro e w1 ⟨rfl, hb1⟩
  by_cases hbig : 30 < n
  · go_wp2
    go_ret
    exact ⟨rfl, hb1⟩
  go_wp2_with fail
  refine (linked_any A n c l w1 (hs.up hb1) (by omega)).mono ?_
  rintro e w2 ⟨m, rfl, hm, hb2⟩
  have hb02 := hb1.trans (hb2.mono hb1.size)
  have HM := Lib.hid hm
  have hmn : m ≤ n := by rw [← HL.out]; exact hm.le
  clear hm
  go_wp2_with fail
  go_loopw [4] (fun i wr => ∃ k : Nat, 1 ≤ k ∧ i = .int .i64 k ∧ (k ≤ m ∨ k = 1) ∧ Below w.heap.size w wr) (fun i _ => n + 1 - (intOf i).toNat)
  case atStart => exact ⟨1, by omega, rfl, by omega, hb02⟩
  case round =>
    obtain ⟨k, hk1, rfl, hk, hb⟩ := hrel
    by_cases hlt : k < m
    · obtain ⟨ab, ao, rfl, hlo, hat⟩ := hs.at_ (by omega)
      obtain ⟨q, rfl⟩ : ∃ q, k = q + 1 := ⟨k - 1, by omega⟩
      obtain ⟨x, y, hx, hy, h1, h2⟩ := HM.out.ok (q + 1) hk1 hlt
      rw [Nat.add_sub_cancel] at hx
      have c0 : wr.cell? ⟨ab, ao + q * 48 + 42, none⟩ = some (.int .i64 x.status) := (belc hb hlo).trans (hat q x hx 42 _ x.c42)
      have c1 : wr.cell? ⟨ab, ao + q * 48 + 43, none⟩ = some (.int .i64 x.next) := (belc hb hlo).trans (hat q x hx 43 _ x.c43)
      have c2 : wr.cell? ⟨ab, ao + (q + 1) * 48, none⟩ = some (.int .i64 y.start) := (belc hb hlo).trans (hat (q + 1) y hy 0 _ y.c0)
      have e1 : wrap64 ((q : Int) + 1 - 1) = (q : Int) := by unfold wrap64; omega
      have hqn : (q : Int) < (n : Int) := by omega
      have hqn1 : (q : Int) + 1 < (n : Int) := by omega
      have e3 : IntKind.i64.wrap (q : Int) = q := by rw [IntKind.wrap_i64]; omega
      have hq0 : (0 : Int) < (q : Int) + 1 := by omega
      have g1 : (x.status != 2) = false := by simp [h1]
      have g2 : (x.next != y.start) = false := by simp [h2]
      clear hat hx hy h1 h2
      go_wp2
      go_quiet (fail)
      go_wp2
      go_roundw
      case rel => exact ⟨(q + 1) + 1, by omega, by go_num, by omega, below_drewN hb _⟩
      case measure => simp [intOf]; omega
    · have hlo := HM.out.lo
      rw [HL.out] at hlo
      go_wp2_with fail
      refine (reflinked_any A n c l wr (hs.up hb) (by omega)).mono ?_
      rintro e w3 ⟨m', rfl, hm', hb3⟩
      obtain rfl : m' = m := hm'.uniq HM.out
      have hbe := hb.trans (hb3.mono hb.size)
      have g1 : decide (m' ≤ n) = true := by simpa using hmn
      by_cases hz : n = 0
      · have hm0 : m' = 0 := by omega
        subst hm0 hz
        clear hlo hm'
        go_wp2
        go_ret
        exact ⟨rfl, hbe⟩
      · have h1 := hlo (by omega)
        have g2 : decide (0 < m') = true := by simp; omega
        clear hlo hm'
        go_wp2
        go_ret
        exact ⟨by simp, hbe⟩
end Go.Proofs.YtbmembmiejmoaaaDoor
