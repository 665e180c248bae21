/- The search for a lock, and who holds one. -/
import Derived.Test.YtkagaelhlghagaaKit2
import Derived.Test.YtkagaelhlghagaaPlain
namespace Go.Proofs.Ytkagaelhlghagaa
open Go.RowKit

theorem nan_any (x : Int) (w : World) : Calls Try.prog 36 #[.int .i64 x] w fun e w' => e = .returned (.bool false) ∧ Below w.heap.size w w' := by
  go_enter Try.func36, Try.ntmps36
  go_wp2
  go_ret
  exact ⟨by simp, Below.refl _ _⟩

def cmpI (x y : Int) : Int := if x < y then -1 else if y < x then 1 else 0
theorem cmp_any (x y : Int) (w : World) : Calls Try.prog 33 #[.int .i64 x, .int .i64 y] w fun e w' => e = .returned (.int .i64 (cmpI x y)) ∧ Below w.heap.size w w' := by
  by_cases h1 : x < y
  · have HE := Lib.hid (show cmpI x y = -1 by simp [cmpI, h1])
    go_enter Try.func33, Try.ntmps33
    go_wp2_with fail
    refine (nan_any x _).mono ?_
    rintro e w1 ⟨rfl, hb1⟩
    go_wp2_with fail
    refine (nan_any y _).mono ?_
    rintro e w2 ⟨rfl, hb2⟩
    have hb := hb1.trans (hb2.mono hb1.size)
    go_wp2
    go_ret
    exact ⟨by rw [HE.out]; rfl, hb⟩
  · by_cases h2 : y < x
    · have HE := Lib.hid (show cmpI x y = 1 by simp [cmpI, h1, h2])
      go_enter Try.func33, Try.ntmps33
      go_wp2_with fail
      refine (nan_any x _).mono ?_
      rintro e w1 ⟨rfl, hb1⟩
      go_wp2_with fail
      refine (nan_any y _).mono ?_
      rintro e w2 ⟨rfl, hb2⟩
      have hb := hb1.trans (hb2.mono hb1.size)
      go_wp2
      go_ret
      exact ⟨by rw [HE.out]; rfl, hb⟩
    · have HE := Lib.hid (show cmpI x y = 0 by simp [cmpI, h1, h2])
      go_enter Try.func33, Try.ntmps33
      go_wp2_with fail
      refine (nan_any x _).mono ?_
      rintro e w1 ⟨rfl, hb1⟩
      go_wp2_with fail
      refine (nan_any y _).mono ?_
      rintro e w2 ⟨rfl, hb2⟩
      have hb := hb1.trans (hb2.mono hb1.size)
      go_wp2
      go_ret
      exact ⟨by rw [HE.out]; rfl, hb⟩

theorem closure_any (x : Lk) (n : Int) (w : World) : Calls Try.prog 32 #[.agg #[.int .i64 x.number, .int .i64 x.holder], .int .i64 n] w fun e w' => e = .returned (.int .i64 (cmpI x.number n)) ∧ Below w.heap.size w w' := by
  go_enter Try.func32, Try.ntmps32
  go_wp2_with fail
  refine (cmp_any x.number n _).mono ?_
  rintro e w1 ⟨rfl, hb1⟩
  have hb : Below w.heap.size w w1 := ((Below.refl _ _).alloc (Nat.le_refl _) _).trans (hb1.mono (by simp))
  go_wp2
  go_ret
  exact ⟨rfl, hb⟩

theorem cmpI_neg {x y : Int} (h : x < y) : cmpI x y = -1 := by simp [cmpI, h]
theorem cmpI_nn {x y : Int} (h : y ≤ x) : cmpI x y = 0 ∨ cmpI x y = 1 := by simp only [cmpI, if_neg (show ¬ x < y by omega)]; split <;> simp
set_option maxHeartbeats 800000 in
theorem bsearch_any (A : Option Addr) (n c : Nat) (l : List Lk) (m : Int) (w : World) (hs : Sl w w.heap.size 2 Lk.cells A n l) (hasc : Asc l) (hn : n ≤ 1000000) :
    Calls Try.prog 31 #[.slice A n c, .int .i64 m, .func (.func 32) #[] #[]] w fun e w' => e = .returned (.tuple #[.int .i64 (pos m l), .bool (thereB m l)]) ∧ Below w.heap.size w w' := by
  have HL := Lib.hid hs.len
  have HA := Lib.hid hasc
  clear hasc
  go_enter Try.func31, Try.ntmps31
  go_wp2_with fail
  go_loopw [9, 10, 11] (fun i j h wr => ∃ a b : Nat, a ≤ b ∧ b ≤ n ∧ i = .int .i64 a ∧ j = .int .i64 b ∧ Hid (∀ (k : Nat) (x : Lk), k < a → l[k]? = some x → x.number < m) ∧ Hid (∀ (k : Nat) (x : Lk), b ≤ k → l[k]? = some x → m ≤ x.number) ∧ Below w.heap.size w wr) (fun i j _ _ => (intOf j).toNat - (intOf i).toNat)
  case atStart => exact ⟨0, n, by omega, by omega, rfl, rfl, by intro k x h; omega, by intro k x h hx; have := (List.getElem?_eq_some_iff.1 hx).1; rw [HL.out] at this; omega, Below.refl _ _⟩
  case round =>
    obtain ⟨a, b, hab, hbn, rfl, rfl, hlo, hhi, hb⟩ := hrel
    by_cases hlt : a < b
    · have hltI : (a : Int) < b := by omega
      obtain ⟨h, hh⟩ : ∃ h : Nat, h = (a + b) / 2 := ⟨_, rfl⟩
      have hmid : ((a : Int) + (b : Int)) / 2 = (h : Int) := by omega
      have h0 : a ≤ h := by omega
      have h1 : h < b := by omega
      obtain ⟨ab, ao, rfl, hlow, hat⟩ := hs.at_ (by omega)
      obtain ⟨x, hx⟩ : ∃ x, l[h]? = some x := ⟨_, List.getElem?_eq_getElem (by rw [HL.out]; omega)⟩
      have c0 : wr.cell? ⟨ab, ao + h * 2, none⟩ = some (.int .i64 x.number) := (belc hb hlow).trans (hat h x hx 0 _ rfl)
      have c1 : wr.cell? ⟨ab, ao + h * 2 + 1, none⟩ = some (.int .i64 x.holder) := (belc hb hlow).trans (hat h x hx 1 _ rfl)
      have HX := Lib.hid hx
      clear hat hx hh
      by_cases hxm : x.number < m
      · have HXM := Lib.hid hxm
        clear hxm
        go_wp2_with fail
        refine (closure_any x m wr).mono ?_
        rintro e w1 ⟨rfl, hb1⟩
        rw [cmpI_neg HXM.out]
        go_wp2
        go_roundw
        case rel =>
          refine ⟨h + 1, b, by omega, by omega, by go_num, rfl, fun k y hk hy => ?_, hhi, hb.trans (hb1.mono hb.size)⟩
          by_cases hkh : k = h
          · subst hkh; rw [HX.out] at hy; injection hy with hy; subst hy; exact HXM.out
          · have := asc_at HA.out (show k < h by omega) hy HX.out; have := HXM.out; omega
        case measure => simp [intOf]; omega
      · have HXM := Lib.hid (show m ≤ x.number by omega)
        clear hxm
        go_wp2_with fail
        refine (closure_any x m wr).mono ?_
        rintro e w1 ⟨rfl, hb1⟩
        rcases cmpI_nn HXM.out with q | q <;> rw [q]
        all_goals
          go_wp2
          go_roundw
          case rel =>
            refine ⟨a, h, by omega, by omega, rfl, by go_num, hlo, fun k y hk hy => ?_, hb.trans (hb1.mono hb.size)⟩
            by_cases hkh : k = h
            · subst hkh; rw [HX.out] at hy; injection hy with hy; subst hy; exact HXM.out
            · have := asc_at HA.out (show h < k by omega) HX.out hy; have := HXM.out; omega
          case measure => simp [intOf]; omega
    · obtain rfl : a = b := by omega
      have hpos : pos m l = a := pos_of (by rw [HL.out]; omega) hlo.out (fun x hx => by have := hhi.out a x (Nat.le_refl _) hx; omega)
      by_cases han : a < n
      · have hanI : (a : Int) < n := by omega
        obtain ⟨ab, ao, rfl, hlow, hat⟩ := hs.at_ (by omega)
        obtain ⟨x, hx⟩ : ∃ x, l[a]? = some x := ⟨_, List.getElem?_eq_getElem (by rw [HL.out]; omega)⟩
        have c0 : wr.cell? ⟨ab, ao + a * 2, none⟩ = some (.int .i64 x.number) := (belc hb hlow).trans (hat a x hx 0 _ rfl)
        have c1 : wr.cell? ⟨ab, ao + a * 2 + 1, none⟩ = some (.int .i64 x.holder) := (belc hb hlow).trans (hat a x hx 1 _ rfl)
        have hge : ¬ x.number < m := by have := hhi.out a x (Nat.le_refl _) hx; omega
        have HT := Lib.hid (show thereB m l = decide (cmpI x.number m = 0) by
          simp only [thereB, hpos, hx, cmpI, if_neg hge]
          by_cases h2 : m < x.number
          · rw [if_pos h2]; have : ¬ x.number = m := by omega
            simp [this]
          · rw [if_neg h2]; have : x.number = m := by omega
            simp [this])
        have HP := Lib.hid hpos
        clear hat hx hpos hge
        go_wp2_with fail
        refine (closure_any x m wr).mono ?_
        rintro e w1 ⟨rfl, hb1⟩
        have hbe := hb.trans (hb1.mono hb.size)
        go_wp2
        go_ret2
        exact ⟨by rw [HT.out, HP.out]; rfl, hbe⟩
      · obtain rfl : a = n := by omega
        have HT := Lib.hid (show thereB m l = false by
          simp only [thereB, hpos]
          rw [List.getElem?_eq_none (by rw [HL.out]; exact Nat.le_refl _)])
        have HP := Lib.hid hpos
        clear hpos
        go_wp2
        go_ret2
        exact ⟨by rw [HT.out, HP.out]; rfl, hb⟩

theorem search_any (A : Option Addr) (n c : Nat) (l : List Lk) (m : Int) (w : World) (hs : Sl w w.heap.size 2 Lk.cells A n l) (hasc : Asc l) (hn : n ≤ 1000000) :
    Calls Try.prog 28 #[.slice A n c, .int .i64 m] w fun e w' => e = .returned (.tuple #[.int .i64 (pos m l), .bool (thereB m l)]) ∧ Below w.heap.size w w' := by
  go_enter Try.func28, Try.ntmps28
  go_wp2_with fail
  refine (bsearch_any A n c l m w hs hasc hn).mono ?_
  rintro e w1 ⟨rfl, hb1⟩
  go_wp2
  go_ret2
  exact ⟨rfl, hb1⟩

/-- Who holds a lock: the program, on lists in order. -/
theorem holder_any (A : Option Addr) (n c : Nat) (l : List Lk) (m : Int) (w : World) (hs : Sl w w.heap.size 2 Lk.cells A n l) (hasc : Asc l) (hn : n ≤ 1000000) :
    Calls Try.prog 14 #[.slice A n c, .int .i64 m] w fun e w' => e = .returned (.int .i64 (holder m l)) ∧ Below w.heap.size w w' := by
  have HL := Lib.hid hs.len
  have hh := holder_pos m hasc
  cases hp : l[pos m l]? with
  | none =>
    rw [hp] at hh
    have HT := Lib.hid (show thereB m l = false by simp [thereB, hp])
    have HH := Lib.hid hh
    clear hh hp
    go_enter Try.func14, Try.ntmps14
    go_wp2_with fail
    refine (search_any A n c l m w hs hasc hn).mono ?_
    rintro e w1 ⟨rfl, hb1⟩
    rw [HT.out]
    go_wp2
    go_ret
    exact ⟨by rw [HH.out]; rfl, hb1⟩
  | some x =>
    rw [hp] at hh
    have hlt := (List.getElem?_eq_some_iff.1 hp).1
    rw [HL.out] at hlt
    obtain ⟨k, hk⟩ : ∃ k, k = pos m l := ⟨_, rfl⟩
    rw [← hk] at hp hlt
    by_cases he : x.number = m
    · have HT := Lib.hid (show thereB m l = true by simp [thereB, ← hk, hp, he])
      have HH := Lib.hid (show holder m l = x.holder by rw [hh]; simp [he])
      obtain ⟨ab, ao, rfl, hlow, hat⟩ := hs.at_ (by omega)
      have hc1 := hat k x hp 1 _ rfl
      have HK := Lib.hid hk
      clear hh hp hat hk
      go_enter Try.func14, Try.ntmps14
      go_wp2_with fail
      refine (search_any _ n c l m w hs hasc hn).mono ?_
      rintro e w1 ⟨rfl, hb1⟩
      rw [HT.out, ← HK.out]
      have c1 : w1.cell? ⟨ab, ao + k * 2 + 1, none⟩ = some (.int .i64 x.holder) := (belc hb1 hlow).trans hc1
      go_wp2
      go_ret
      exact ⟨by rw [HH.out]; rfl, hb1⟩
    · have HT := Lib.hid (show thereB m l = false by simp [thereB, ← hk, hp, he])
      have HH := Lib.hid (show holder m l = 0 by rw [hh]; simp [he])
      clear hh hp hk
      go_enter Try.func14, Try.ntmps14
      go_wp2_with fail
      refine (search_any A n c l m w hs hasc hn).mono ?_
      rintro e w1 ⟨rfl, hb1⟩
      rw [HT.out]
      go_wp2
      go_ret
      exact ⟨by rw [HH.out]; rfl, hb1⟩
end Go.Proofs.Ytkagaelhlghagaa
