/- slices.IndexFunc at elements of 2 cells and one closure: what it finds, told by the closure's contract. -/
import Derived.Test.YtfhpniafkkgibaaDoorKit
import Derived.Test.YtfhpniafkkgibaaDoorPlain
namespace Go.Proofs.YtfhpniafkkgibaaDoor
open Go.RowKit
namespace IdxHas
/-- The place of the first element that the test likes, -1 if there is none. -/
def idx (q : Ob → Bool) : List Ob → Int
  | [] => -1
  | x :: l => if q x then 0 else if idx q l < 0 then -1 else idx q l + 1
theorem idx_no {q : Ob → Bool} : ∀ {l : List Ob}, (∀ (i : Nat) (x : Ob), l[i]? = some x → q x = false) → idx q l = -1
  | [], _ => rfl
  | x :: l, h => by
    have h0 := h 0 x rfl
    have ih := idx_no (q := q) (l := l) (fun i y hy => h (i + 1) y (by simpa using hy))
    simp [idx, h0, ih]
theorem idx_at {q : Ob → Bool} : ∀ {l : List Ob} {k : Nat} {x : Ob}, l[k]? = some x → q x = true → (∀ (i : Nat) (y : Ob), i < k → l[i]? = some y → q y = false) → idx q l = k
  | [], k, x, h, _, _ => by simp at h
  | y :: l, 0, x, h, hq, _ => by simp at h; subst h; simp [idx, hq]
  | y :: l, k + 1, x, h, hq, hb => by
    have h0 := hb 0 y (by omega) rfl
    have ih := idx_at (q := q) (l := l) (k := k) (by simpa using h) hq (fun i z hi hz => hb (i + 1) z (by omega) (by simpa using hz))
    simp only [idx, h0, ih]
    simp
    omega

theorem idx_cases (q : Ob → Bool) : ∀ l : List Ob, (idx q l = -1 ∧ ∀ (i : Nat) (x : Ob), l[i]? = some x → q x = false) ∨ ∃ (k : Nat) (x : Ob), idx q l = k ∧ k < l.length ∧ l[k]? = some x ∧ q x = true ∧ ∀ (i : Nat) (y : Ob), i < k → l[i]? = some y → q y = false
  | [] => .inl ⟨rfl, fun i x h => by simp at h⟩
  | x :: l => by
    cases hq : q x with
    | true => exact .inr ⟨0, x, by simp [idx, hq], by simp, rfl, hq, fun i y hi => absurd hi (by omega)⟩
    | false =>
      rcases idx_cases q l with ⟨h, hn⟩ | ⟨k, y, h, hk, hy, hqy, hb⟩
      · refine .inl ⟨by simp [idx, hq, h], fun i y hy => ?_⟩
        match i, hy with
        | 0, hy => simp at hy; subst hy; exact hq
        | i + 1, hy => exact hn i y (by simpa using hy)
      · refine .inr ⟨k + 1, y, by simp only [idx, hq, h]; simp; omega, by simp; omega, by simpa using hy, hqy, fun i z hi hz => ?_⟩
        match i, hz with
        | 0, hz => simp at hz; subst hz; exact hq
        | i + 1, hz => exact hb i z (by omega) (by simpa using hz)

set_option maxHeartbeats 400000 in
theorem any (A : Option Addr) (n c : Nat) (l : List Ob) (q : Ob → Bool) (p : Nat) (w : World) (hs : Sl w w.heap.size 2 Ob.cells A n l) (hn : n ≤ 9223372036854775807)
    (hf : ∀ x, x ∈ l → ∀ w', Below w.heap.size w w' → Calls Tryd.prog 27 #[.agg #[.int .i64 x.id, .slice x.A x.n x.c], .pointer (some ⟨p, 0, none⟩)] w' fun e w'' => e = .returned (.bool (q x)) ∧ Below w'.heap.size w' w'') :
    Calls Tryd.prog 36 #[.slice A n c, .func (.func 27) #[] #[.pointer (some ⟨p, 0, none⟩)]] w fun e w' => e = .returned (.int .i64 (idx q l)) ∧ Below w.heap.size w w' := by
  have HL := Lib.hid hs.len
  have HF := Lib.hid hf
  clear hf
  go_enter Tryd.func36, Tryd.ntmps36
  go_wp2_with fail
  go_loopw [8] (fun i wr => ∃ k : Nat, k ≤ n ∧ i = .int .i64 k ∧ Hid (∀ (i : Nat) (x : Ob), i < k → l[i]? = some x → q x = false) ∧ Below w.heap.size w wr) (fun i _ => n - (intOf i).toNat)
  case atStart => exact ⟨0, Nat.zero_le _, rfl, (by intro i x h; omega), Below.refl _ _⟩
  case round =>
    obtain ⟨k, hk, rfl, hno, hb⟩ := hrel
    by_cases hlt : k < n
    · obtain ⟨ab, ao, rfl, hlo, hat⟩ := hs.at_ (by omega)
      obtain ⟨x, hx⟩ : ∃ x, l[k]? = some x := ⟨_, List.getElem?_eq_getElem (by rw [HL.out]; exact hlt)⟩
      have hcell : ∀ (j : Nat) (u : Value), (Ob.cells x)[j]? = some u → wr.cell? ⟨ab, ao + (k * 2 + j), none⟩ = some u := fun j u hu => (hb.cell (p := ⟨ab, _, none⟩) hlo).trans (hat k x hx j u hu)
      have c0 : wr.cell? ⟨ab, ao + k * 2, none⟩ = some (.int .i64 x.id) := hcell 0 _ rfl
      have c1 : wr.cell? ⟨ab, ao + k * 2 + 1, none⟩ = some (.slice x.A x.n x.c) := hcell 1 _ rfl
      have HX := Lib.hid hx
      clear hat hx hcell
      cases hq : q x
      · have HQ := Lib.hid hq
        clear hq
        go_wp2_with fail
        refine (HF.out x (List.mem_of_getElem? HX.out) wr hb).mono ?_
        rintro e w' ⟨rfl, hb'⟩
        rw [HQ.out]
        go_wp2
        go_roundw
        case rel =>
          refine ⟨k + 1, by omega, by go_num, fun i y hi hy => ?_, hb.trans (hb'.mono hb.size)⟩
          by_cases hik : i = k
          · subst hik; rw [HX.out] at hy; injection hy with hy; subst hy; exact HQ.out
          · exact hno.out i y (by omega) hy
        case measure => simp [intOf]; omega
      · have HQ := Lib.hid hq
        clear hq
        go_wp2_with fail
        refine (HF.out x (List.mem_of_getElem? HX.out) wr hb).mono ?_
        rintro e w' ⟨rfl, hb'⟩
        rw [HQ.out]
        have hbe : Below w.heap.size w w' := hb.trans (hb'.mono hb.size)
        have HE := Lib.hid (idx_at (q := q) HX.out HQ.out hno.out)
        go_wp2
        go_ret
        exact ⟨by rw [HE.out]; rfl, hbe⟩
    · obtain rfl : k = n := by omega
      have HE := Lib.hid (idx_no (q := q) (l := l) (fun i x hx => hno.out i x (by have := (List.getElem?_eq_some_iff.1 hx).1; rw [HL.out] at this; exact this) hx))
      go_wp2
      go_ret
      exact ⟨by rw [HE.out]; rfl, hb⟩
end IdxHas
end Go.Proofs.YtfhpniafkkgibaaDoor
