/- How many tasks follow each other, of the program and of the reference. -/
import Derived.Test.YtbmembmiejmoaaaDoorF
namespace Go.Proofs.YtbmembmiejmoaaaDoor
open Go.RowKit

/-- A task, as far as it is looked at. -/
structure Tk where
  start : Int
  status : Int
  next : Int
  cells : List Value
  size : cells.length = 48
  c0 : cells[0]? = some (.int .i64 start)
  c42 : cells[42]? = some (.int .i64 status)
  c43 : cells[43]? = some (.int .i64 next)

def OkL (l : List Tk) (i : Nat) : Prop := ∃ x y, l[i - 1]? = some x ∧ l[i]? = some y ∧ x.status = 2 ∧ x.next = y.start
/-- m tasks follow each other. -/
structure Lk (l : List Tk) (m : Nat) : Prop where
  le : m ≤ l.length
  lo : 0 < l.length → 1 ≤ m
  ok : ∀ i, 1 ≤ i → i < m → OkL l i
  no : m < l.length → ¬ OkL l m
theorem Lk.uniq {l : List Tk} {a b : Nat} (ha : Lk l a) (hb : Lk l b) : a = b := by
  rcases Nat.lt_trichotomy a b with h | h | h
  · have := hb.le
    exact absurd (hb.ok a (ha.lo (by omega)) h) (ha.no (by omega))
  · exact h
  · have := ha.le
    exact absurd (ha.ok b (hb.lo (by omega)) h) (hb.no (by omega))

set_option maxRecDepth 100000 in
set_option maxHeartbeats 2000000 in
theorem linked_any (A : Option Addr) (n c : Nat) (l : List Tk) (w : World) (hs : Sl w w.heap.size 48 Tk.cells A n l) (hn : n ≤ 1000000) :
    Calls Tryd.prog 13 #[.slice A n c] w fun e w' => ∃ m : Nat, e = .returned (.int .i64 m) ∧ Lk l m ∧ Below w.heap.size w w' := by
  have HL := Lib.hid hs.len
  go_enter Tryd.func13, Tryd.ntmps13
  go_wp2_with fail
  go_loopw [3] (fun i wr => ∃ k : Nat, 1 ≤ k ∧ (0 < n → k ≤ n) ∧ i = .int .i64 k ∧ Hid (∀ i, 1 ≤ i → i < k → OkL l i) ∧ Below w.heap.size w wr) (fun i _ => n - (intOf i).toNat)
  case atStart => exact ⟨1, by omega, by omega, rfl, Lib.hid (fun i h1 h => absurd h (by omega)), Below.refl _ _⟩
  case round =>
    obtain ⟨k, hk1, hk, rfl, hok, hb⟩ := hrel
    by_cases hlt : k < n
    · obtain ⟨ab, ao, rfl, hlo, hat⟩ := hs.at_ (by omega)
      obtain ⟨q, rfl⟩ : ∃ q, k = q + 1 := ⟨k - 1, by omega⟩
      obtain ⟨x, hx⟩ : ∃ x, l[q]? = some x := ⟨_, List.getElem?_eq_getElem (by rw [HL.out]; omega)⟩
      obtain ⟨y, hy⟩ : ∃ y, l[q + 1]? = some y := ⟨_, List.getElem?_eq_getElem (by rw [HL.out]; omega)⟩
      have c0 : wr.cell? ⟨ab, ao + q * 48 + 42, none⟩ = some (.int .i64 x.status) := (belc hb hlo).trans (hat q x hx 42 _ x.c42)
      have c1 : wr.cell? ⟨ab, ao + q * 48 + 43, none⟩ = some (.int .i64 x.next) := (belc hb hlo).trans (hat q x hx 43 _ x.c43)
      have c2 : wr.cell? ⟨ab, ao + (q + 1) * 48, none⟩ = some (.int .i64 y.start) := (belc hb hlo).trans (hat (q + 1) y hy 0 _ y.c0)
      have HX := Lib.hid hx
      have HY := Lib.hid hy
      have e1 : wrap64 ((q : Int) + 1 - 1) = (q : Int) := by unfold wrap64; omega
      have hqn : (q : Int) < (n : Int) := by omega
      have hqn1 : (q : Int) + 1 < (n : Int) := by omega
      have e3 : IntKind.i64.wrap (q : Int) = q := by rw [IntKind.wrap_i64]; omega
      have hq0 : (0 : Int) < (q : Int) + 1 := by omega
      by_cases h1 : x.status = 2
      · have g1 : (x.status != 2) = false := by simp [h1]
        by_cases h2 : x.next = y.start
        · have g2 : (x.next != y.start) = false := by simp [h2]
          have HO := Lib.hid (show OkL l (q + 1) from ⟨x, y, hx, hy, h1, h2⟩)
          clear hat hx hy h1 h2
          go_wp2
          go_quiet (fail)
          go_wp2
          go_roundw
          case rel =>
            refine ⟨(q + 1) + 1, by omega, by omega, by go_num, Lib.hid (fun i h1 h2 => ?_), below_drewN hb _⟩
            by_cases hi : i = q + 1
            · subst hi; exact HO.out
            · exact hok.out i h1 (by omega)
          case measure => simp [intOf]; omega
        · have g2 : (x.next != y.start) = true := by simp [h2]
          have HO := Lib.hid (show ¬ OkL l (q + 1) from fun ⟨x', y', a, b, _, d⟩ => by rw [Nat.add_sub_cancel, hx] at a; rw [hy] at b; injection a with a; injection b with b; subst a b; exact h2 d)
          clear hat hx hy h1 h2
          go_wp2
          go_quiet (fail)
          go_wp2
          go_ret
          exact ⟨q + 1, by simp, ⟨by rw [HL.out]; omega, fun _ => by omega, hok.out, fun _ => HO.out⟩, below_drewN hb _⟩
      · have g1 : (x.status != 2) = true := by simp [h1]
        have HO := Lib.hid (show ¬ OkL l (q + 1) from fun ⟨x', y', a, b, d, _⟩ => by rw [Nat.add_sub_cancel, hx] at a; injection a with a; subst a; exact h1 d)
        clear hat hx hy h1
        go_wp2
        go_quiet (fail)
        go_wp2
        go_ret
        exact ⟨q + 1, by simp, ⟨by rw [HL.out]; omega, fun _ => by omega, hok.out, fun _ => HO.out⟩, below_drewN hb _⟩
    · go_wp2
      go_ret
      exact ⟨n, rfl, ⟨by rw [HL.out]; exact Nat.le_refl _, fun h => by rw [HL.out] at h; omega, fun i h1 h2 => hok.out i h1 (by omega), fun h => by rw [HL.out] at h; omega⟩, hb⟩

set_option maxRecDepth 100000 in
set_option maxHeartbeats 2000000 in
theorem reflinked_any (A : Option Addr) (n c : Nat) (l : List Tk) (w : World) (hs : Sl w w.heap.size 48 Tk.cells A n l) (hn : n ≤ 1000000) :
    Calls Tryd.prog 14 #[.slice A n c] w fun e w' => ∃ m : Nat, e = .returned (.int .i64 m) ∧ Lk l m ∧ Below w.heap.size w w' := by
  have HL := Lib.hid hs.len
  by_cases hz : n = 0
  · subst hz
    go_enter Tryd.func14, Tryd.ntmps14
    go_wp2
    go_ret
    exact ⟨0, rfl, ⟨by omega, fun h => by rw [HL.out] at h; omega, fun i h1 h2 => absurd h2 (by omega), fun h => by rw [HL.out] at h; omega⟩, Below.refl _ _⟩
  have gz : ((n : Int) == 0) = false := by rw [beq_eq_false_iff_ne]; omega
  have gz' : (n == 0) = false := by rw [beq_eq_false_iff_ne]; omega
  go_enter Tryd.func14, Tryd.ntmps14
  go_wp2_with fail
  go_loopw [3] (fun i wr => ∃ k : Nat, 1 ≤ k ∧ k ≤ n ∧ i = .int .i64 k ∧ Hid (∀ i, 1 ≤ i → i < k → OkL l i) ∧ Below w.heap.size w wr) (fun i _ => n - (intOf i).toNat)
  case atStart => exact ⟨1, by omega, by omega, rfl, Lib.hid (fun i h1 h => absurd h (by omega)), Below.refl _ _⟩
  case round =>
    obtain ⟨k, hk1, hk, rfl, hok, hb⟩ := hrel
    by_cases hlt : k < n
    · obtain ⟨ab, ao, rfl, hlo, hat⟩ := hs.at_ (by omega)
      obtain ⟨q, rfl⟩ : ∃ q, k = q + 1 := ⟨k - 1, by omega⟩
      obtain ⟨x, hx⟩ : ∃ x, l[q]? = some x := ⟨_, List.getElem?_eq_getElem (by rw [HL.out]; omega)⟩
      obtain ⟨y, hy⟩ : ∃ y, l[q + 1]? = some y := ⟨_, List.getElem?_eq_getElem (by rw [HL.out]; omega)⟩
      have c0 : wr.cell? ⟨ab, ao + q * 48 + 42, none⟩ = some (.int .i64 x.status) := (belc hb hlo).trans (hat q x hx 42 _ x.c42)
      have c1 : wr.cell? ⟨ab, ao + q * 48 + 43, none⟩ = some (.int .i64 x.next) := (belc hb hlo).trans (hat q x hx 43 _ x.c43)
      have c2 : wr.cell? ⟨ab, ao + (q + 1) * 48, none⟩ = some (.int .i64 y.start) := (belc hb hlo).trans (hat (q + 1) y hy 0 _ y.c0)
      have HX := Lib.hid hx
      have HY := Lib.hid hy
      have e1 : wrap64 ((q : Int) + 1 - 1) = (q : Int) := by unfold wrap64; omega
      have hqn : (q : Int) < (n : Int) := by omega
      have hqn1 : (q : Int) + 1 < (n : Int) := by omega
      have e3 : IntKind.i64.wrap (q : Int) = q := by rw [IntKind.wrap_i64]; omega
      have hq0 : (0 : Int) < (q : Int) + 1 := by omega
      have gl : decide (q + 1 < n) = true := by simp; omega
      by_cases h1 : x.status = 2
      · have g1 : (x.status == 2) = true := by simp [h1]
        by_cases h2 : x.next = y.start
        · have g2 : (x.next == y.start) = true := by simp [h2]
          have HO := Lib.hid (show OkL l (q + 1) from ⟨x, y, hx, hy, h1, h2⟩)
          clear hat hx hy h1 h2
          go_wp2
          go_quiet (fail)
          go_wp2
          go_roundw
          case rel =>
            refine ⟨(q + 1) + 1, by omega, by omega, by go_num, Lib.hid (fun i h1 h2 => ?_), below_drewN hb _⟩
            by_cases hi : i = q + 1
            · subst hi; exact HO.out
            · exact hok.out i h1 (by omega)
          case measure => simp [intOf]; omega
        · have g2 : (x.next == y.start) = false := by simp [h2]
          have HO := Lib.hid (show ¬ OkL l (q + 1) from fun ⟨x', y', a, b, _, d⟩ => by rw [Nat.add_sub_cancel, hx] at a; rw [hy] at b; injection a with a; injection b with b; subst a b; exact h2 d)
          clear hat hx hy h1 h2
          go_wp2
          go_quiet (fail)
          go_wp2
          go_ret
          exact ⟨q + 1, by simp, ⟨by rw [HL.out]; omega, fun _ => by omega, hok.out, fun _ => HO.out⟩, below_drewN hb _⟩
      · have g1 : (x.status == 2) = false := by simp [h1]
        have HO := Lib.hid (show ¬ OkL l (q + 1) from fun ⟨x', y', a, b, d, _⟩ => by rw [Nat.add_sub_cancel, hx] at a; injection a with a; subst a; exact h1 d)
        clear hat hx hy h1
        go_wp2
        go_quiet (fail)
        go_wp2
        go_ret
        exact ⟨q + 1, by simp, ⟨by rw [HL.out]; omega, fun _ => by omega, hok.out, fun _ => HO.out⟩, below_drewN hb _⟩
    · have gl : decide (k < n) = false := by simp; omega
      obtain rfl : k = n := by omega
      go_wp2
      go_quiet (fail)
      go_wp2
      go_ret
      exact ⟨k, rfl, ⟨by rw [HL.out]; exact Nat.le_refl _, fun h => by rw [HL.out] at h; omega, fun i h1 h2 => hok.out i h1 (by omega), fun h => by rw [HL.out] at h; omega⟩, below_drewN hb _⟩
end Go.Proofs.YtbmembmiejmoaaaDoor
