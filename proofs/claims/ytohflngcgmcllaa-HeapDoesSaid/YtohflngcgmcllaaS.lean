/- Sameness: of fields, of objects, of heaps; program and reference. -/
import Derived.Test.YtohflngcgmcllaaA
namespace Go.Proofs.Ytohflngcgmcllaa
open Go.RowKit

theorem ext_of {α : Type} {s t : List α} {k : Nat} (hs : s.length = k) (ht : t.length = k) (h : ∀ i, i < k → s[i]? = t[i]?) : s = t := by
  apply List.ext_getElem?
  intro i
  by_cases hi : i < k
  · exact h i hi
  · rw [List.getElem?_eq_none (by omega), List.getElem?_eq_none (by omega)]

set_option maxHeartbeats 1000000 in
theorem equal_any (A : Option Addr) (n c : Nat) (s : List Val) (B : Option Addr) (m d : Nat) (t : List Val) (w : World) (hs : Sl w w.heap.size 2 Val.cells A n s) (ht : Sl w w.heap.size 2 Val.cells B m t) (hn : n ≤ 9000000000000) (hm : m ≤ 9000000000000) :
    Calls Try.prog 34 #[.slice A n c, .slice B m d] w fun e w' => e = .returned (.bool (decide (s = t))) ∧ Below w.heap.size w w' := by
  have HS := Lib.hid hs.len
  have HT := Lib.hid ht.len
  by_cases hnm : n = m
  · subst hnm
    go_enter Try.func34, Try.ntmps34
    go_wp2_with fail
    go_loopw [13] (fun i wr => ∃ k : Nat, k ≤ n ∧ i = .int .i64 k ∧ Hid (∀ i, i < k → s[i]? = t[i]?) ∧ Below w.heap.size w wr) (fun i _ => n - (intOf i).toNat)
    case atStart => exact ⟨0, Nat.zero_le _, rfl, Lib.hid (fun i h => absurd h (by omega)), Below.refl _ _⟩
    case round =>
      obtain ⟨k, hk, rfl, hall, hb⟩ := hrel
      by_cases hlt : k < n
      · obtain ⟨ab, ao, rfl, hlo, hat⟩ := hs.at_ (by omega)
        obtain ⟨bb, bo, rfl, hlo', hat'⟩ := ht.at_ (by omega)
        obtain ⟨x, hx⟩ : ∃ x, s[k]? = some x := ⟨_, List.getElem?_eq_getElem (by rw [HS.out]; exact hlt)⟩
        obtain ⟨y, hy⟩ : ∃ y, t[k]? = some y := ⟨_, List.getElem?_eq_getElem (by rw [HT.out]; exact hlt)⟩
        obtain ⟨xr, xn⟩ := x
        obtain ⟨yr, yn⟩ := y
        have c0 : wr.cell? ⟨ab, ao + k * 2, none⟩ = some (.bool xr) := (belc hb hlo).trans (hat k _ hx 0 _ rfl)
        have c1 : wr.cell? ⟨ab, ao + k * 2 + 1, none⟩ = some (.int .i64 xn) := (belc hb hlo).trans (hat k _ hx 1 _ rfl)
        have d0 : wr.cell? ⟨bb, bo + k * 2, none⟩ = some (.bool yr) := (belc hb hlo').trans (hat' k _ hy 0 _ rfl)
        have d1 : wr.cell? ⟨bb, bo + k * 2 + 1, none⟩ = some (.int .i64 yn) := (belc hb hlo').trans (hat' k _ hy 1 _ rfl)
        have HX := Lib.hid hx
        have HY := Lib.hid hy
        clear hat hat' hx hy
        by_cases hr : xr = yr
        · subst hr
          by_cases hn2 : xn = yn
          · subst hn2
            go_wp2
            go_quiet (fail)
            go_wp2
            go_roundw
            case rel =>
              refine ⟨k + 1, by omega, by go_num, Lib.hid (fun i hi => ?_), below_drewN hb _⟩
              by_cases hik : i = k
              · subst hik; rw [HX.out, HY.out]
              · exact hall.out i (by omega)
            case measure => simp [intOf]; omega
          · have HE := Lib.hid (show decide (s = t) = false from decide_eq_false (fun h => by have h1 := HX.out; rw [h, HY.out] at h1; injection h1 with h1; injection h1 with h1 h2; exact hn2 h2.symm))
            have g1 : (xn != yn) = true := by simp; exact hn2
            have g2 : (xn == yn) = false := by simp; exact hn2
            have g3 : decide (xn = yn) = false := by simp; exact hn2
            go_wp2
            go_quiet (fail)
            go_wp2
            go_ret
            exact ⟨by rw [HE.out]; rfl, below_drewN hb _⟩
        · have HE := Lib.hid (show decide (s = t) = false from decide_eq_false (fun h => by have h1 := HX.out; rw [h, HY.out] at h1; injection h1 with h1; injection h1 with h1 h2; exact hr h1.symm))
          cases xr <;> cases yr
          · exact absurd rfl hr
          · go_wp2
            go_quiet (fail)
            go_wp2
            go_ret
            exact ⟨by rw [HE.out]; rfl, below_drewN hb _⟩
          · go_wp2
            go_quiet (fail)
            go_wp2
            go_ret
            exact ⟨by rw [HE.out]; rfl, below_drewN hb _⟩
          · exact absurd rfl hr
      · obtain rfl : k = n := by omega
        have HE := Lib.hid (show decide (s = t) = true from decide_eq_true (ext_of HS.out HT.out hall.out))
        go_wp2
        go_ret
        exact ⟨by rw [HE.out]; rfl, hb⟩
  · have HE := Lib.hid (show decide (s = t) = false from decide_eq_false (fun h => hnm (by rw [← HS.out, ← HT.out, h])))
    have hne : ¬ (n : Int) = m := by omega
    go_enter Try.func34, Try.ntmps34
    go_wp2
    go_ret
    exact ⟨by rw [HE.out]; rfl, Below.refl _ _⟩
end Go.Proofs.Ytohflngcgmcllaa
