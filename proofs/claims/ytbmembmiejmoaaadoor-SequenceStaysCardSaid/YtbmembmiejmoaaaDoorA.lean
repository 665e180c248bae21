/- The search for a follow, of the program and of the reference. -/
import Derived.Test.YtbmembmiejmoaaaDoorKit2
import Derived.Test.YtbmembmiejmoaaaDoorPlain
namespace Go.Proofs.YtbmembmiejmoaaaDoor
open Go.RowKit

theorem nan_any (x : Int) (w : World) : Calls Tryd.prog 29 #[.int .i64 x] w fun e w' => e = .returned (.bool false) ∧ Below w.heap.size w w' := by
  go_enter Tryd.func29, Tryd.ntmps29
  go_wp2
  go_ret
  exact ⟨by simp, Below.refl _ _⟩

def cmpI (x y : Int) : Int := if x < y then -1 else if y < x then 1 else 0
theorem cmp_any (x y : Int) (w : World) : Calls Tryd.prog 23 #[.int .i64 x, .int .i64 y] w fun e w' => e = .returned (.int .i64 (cmpI x y)) ∧ Below w.heap.size w w' := by
  by_cases h1 : x < y
  · have HE := Lib.hid (show cmpI x y = -1 by simp [cmpI, h1])
    go_enter Tryd.func23, Tryd.ntmps23
    go_wp2_with fail
    refine (nan_any x _).mono ?_
    rintro e w1 ⟨rfl, hb1⟩
    go_wp2_with fail
    refine (nan_any y _).mono ?_
    rintro e w2 ⟨rfl, hb2⟩
    have hb := hb1.trans (hb2.mono hb1.size)
    go_wp2
    go_ret
    exact ⟨by rw [HE.out]; rfl, hb⟩
  · by_cases h2 : y < x
    · have HE := Lib.hid (show cmpI x y = 1 by simp [cmpI, h1, h2])
      go_enter Tryd.func23, Tryd.ntmps23
      go_wp2_with fail
      refine (nan_any x _).mono ?_
      rintro e w1 ⟨rfl, hb1⟩
      go_wp2_with fail
      refine (nan_any y _).mono ?_
      rintro e w2 ⟨rfl, hb2⟩
      have hb := hb1.trans (hb2.mono hb1.size)
      go_wp2
      go_ret
      exact ⟨by rw [HE.out]; rfl, hb⟩
    · have HE := Lib.hid (show cmpI x y = 0 by simp [cmpI, h1, h2])
      go_enter Tryd.func23, Tryd.ntmps23
      go_wp2_with fail
      refine (nan_any x _).mono ?_
      rintro e w1 ⟨rfl, hb1⟩
      go_wp2_with fail
      refine (nan_any y _).mono ?_
      rintro e w2 ⟨rfl, hb2⟩
      have hb := hb1.trans (hb2.mono hb1.size)
      go_wp2
      go_ret
      exact ⟨by rw [HE.out]; rfl, hb⟩

theorem closure_any (x : Trk) (n : Int) (w : World) : Calls Tryd.prog 22 #[.agg #[.int .i64 x.key, .int .i64 x.to, .int .i64 x.cnt], .int .i64 n] w fun e w' => e = .returned (.int .i64 (cmpI x.key n)) ∧ Below w.heap.size w w' := by
  go_enter Tryd.func22, Tryd.ntmps22
  go_wp2_with fail
  refine (cmp_any x.key n _).mono ?_
  rintro e w1 ⟨rfl, hb1⟩
  have hb : Below w.heap.size w w1 := ((Below.refl _ _).alloc (Nat.le_refl _) _).trans (hb1.mono (by simp))
  go_wp2
  go_ret
  exact ⟨rfl, hb⟩

theorem cmpI_neg {x y : Int} (h : x < y) : cmpI x y = -1 := by simp [cmpI, h]
theorem cmpI_nn {x y : Int} (h : y ≤ x) : cmpI x y = 0 ∨ cmpI x y = 1 := by simp only [cmpI, if_neg (show ¬ x < y by omega)]; split <;> simp
set_option maxHeartbeats 800000 in
theorem bsearch_any (A : Option Addr) (n c : Nat) (l : List Trk) (m : Int) (w : World) (hs : Sl w w.heap.size 3 Trk.cells A n l) (hasc : Sorted l) (hn : n ≤ 1000000) :
    Calls Tryd.prog 21 #[.slice A n c, .int .i64 m, .func (.func 22) #[] #[]] w fun e w' => e = .returned (.tuple #[.int .i64 (lowb l m), .bool (hit l m)]) ∧ Below w.heap.size w w' := by
  have HL := Lib.hid hs.len
  have HA := Lib.hid hasc
  clear hasc
  go_enter Tryd.func21, Tryd.ntmps21
  go_wp2_with fail
  go_loopw [9, 10, 11] (fun i j h wr => ∃ a b : Nat, a ≤ b ∧ b ≤ n ∧ i = .int .i64 a ∧ j = .int .i64 b ∧ Hid (∀ (k : Nat) (x : Trk), k < a → l[k]? = some x → x.key < m) ∧ Hid (∀ (k : Nat) (x : Trk), b ≤ k → l[k]? = some x → m ≤ x.key) ∧ Below w.heap.size w wr) (fun i j _ _ => (intOf j).toNat - (intOf i).toNat)
  case atStart => exact ⟨0, n, by omega, by omega, rfl, rfl, by intro k x h; omega, by intro k x h hx; have := (List.getElem?_eq_some_iff.1 hx).1; rw [HL.out] at this; omega, Below.refl _ _⟩
  case round =>
    obtain ⟨a, b, hab, hbn, rfl, rfl, hlo, hhi, hb⟩ := hrel
    by_cases hlt : a < b
    · have hltI : (a : Int) < b := by omega
      obtain ⟨h, hh⟩ : ∃ h : Nat, h = (a + b) / 2 := ⟨_, rfl⟩
      have hmid : ((a : Int) + (b : Int)) / 2 = (h : Int) := by omega
      have h0 : a ≤ h := by omega
      have h1 : h < b := by omega
      obtain ⟨ab, ao, rfl, hlow, hat⟩ := hs.at_ (by omega)
      obtain ⟨x, hx⟩ : ∃ x, l[h]? = some x := ⟨_, List.getElem?_eq_getElem (by rw [HL.out]; omega)⟩
      have c0 : wr.cell? ⟨ab, ao + h * 3, none⟩ = some (.int .i64 x.key) := (belc hb hlow).trans (hat h x hx 0 _ rfl)
      have c1 : wr.cell? ⟨ab, ao + h * 3 + 1, none⟩ = some (.int .i64 x.to) := (belc hb hlow).trans (hat h x hx 1 _ rfl)
      have c2 : wr.cell? ⟨ab, ao + h * 3 + 2, none⟩ = some (.int .i64 x.cnt) := (belc hb hlow).trans (hat h x hx 2 _ rfl)
      have HX := Lib.hid hx
      clear hat hx hh
      by_cases hxm : x.key < m
      · have HXM := Lib.hid hxm
        clear hxm
        go_wp2_with fail
        refine (closure_any x m wr).mono ?_
        rintro e w1 ⟨rfl, hb1⟩
        rw [cmpI_neg HXM.out]
        go_wp2
        go_roundw
        case rel =>
          refine ⟨h + 1, b, by omega, by omega, by go_num, rfl, fun k y hk hy => ?_, hhi, hb.trans (hb1.mono hb.size)⟩
          by_cases hkh : k = h
          · subst hkh; rw [HX.out] at hy; injection hy with hy; subst hy; exact HXM.out
          · have := HA.out k h y x (by omega) hy HX.out; have := HXM.out; omega
        case measure => simp [intOf]; omega
      · have HXM := Lib.hid (show m ≤ x.key by omega)
        clear hxm
        go_wp2_with fail
        refine (closure_any x m wr).mono ?_
        rintro e w1 ⟨rfl, hb1⟩
        rcases cmpI_nn HXM.out with q | q <;> rw [q]
        all_goals
          go_wp2
          go_roundw
          case rel =>
            refine ⟨a, h, by omega, by omega, rfl, by go_num, hlo, fun k y hk hy => ?_, hb.trans (hb1.mono hb.size)⟩
            by_cases hkh : k = h
            · subst hkh; rw [HX.out] at hy; injection hy with hy; subst hy; exact HXM.out
            · have := HA.out h k x y (by omega) HX.out hy; have := HXM.out; omega
          case measure => simp [intOf]; omega
    · obtain rfl : a = b := by omega
      have hpos : lowb l m = a := lowb_of (by rw [HL.out]; omega) hlo.out (fun x hx => by have := hhi.out a x (Nat.le_refl _) hx; omega)
      by_cases han : a < n
      · have hanI : (a : Int) < n := by omega
        obtain ⟨ab, ao, rfl, hlow, hat⟩ := hs.at_ (by omega)
        obtain ⟨x, hx⟩ : ∃ x, l[a]? = some x := ⟨_, List.getElem?_eq_getElem (by rw [HL.out]; omega)⟩
        have c0 : wr.cell? ⟨ab, ao + a * 3, none⟩ = some (.int .i64 x.key) := (belc hb hlow).trans (hat a x hx 0 _ rfl)
        have c1 : wr.cell? ⟨ab, ao + a * 3 + 1, none⟩ = some (.int .i64 x.to) := (belc hb hlow).trans (hat a x hx 1 _ rfl)
        have c2 : wr.cell? ⟨ab, ao + a * 3 + 2, none⟩ = some (.int .i64 x.cnt) := (belc hb hlow).trans (hat a x hx 2 _ rfl)
        have hge : ¬ x.key < m := by have := hhi.out a x (Nat.le_refl _) hx; omega
        have HT := Lib.hid (show hit l m = decide (cmpI x.key m = 0) by
          simp only [hit, hpos, hx, cmpI, if_neg hge]
          by_cases h2 : m < x.key
          · rw [if_pos h2]; have : ¬ x.key = m := by omega
            simp [this]
          · rw [if_neg h2]; have : x.key = m := by omega
            simp [this])
        have HP := Lib.hid hpos
        clear hat hx hpos hge
        go_wp2_with fail
        refine (closure_any x m wr).mono ?_
        rintro e w1 ⟨rfl, hb1⟩
        have hbe := hb.trans (hb1.mono hb.size)
        go_wp2
        go_ret2
        exact ⟨by rw [HT.out, HP.out]; rfl, hbe⟩
      · obtain rfl : a = n := by omega
        have HT := Lib.hid (show hit l m = false by
          simp only [hit, hpos]
          rw [List.getElem?_eq_none (by rw [HL.out]; exact Nat.le_refl _)])
        have HP := Lib.hid hpos
        clear hpos
        go_wp2
        go_ret2
        exact ⟨by rw [HT.out, HP.out]; rfl, hb⟩


theorem find_any (A : Option Addr) (n c : Nat) (l : List Trk) (m : Int) (w : World) (hs : Sl w w.heap.size 3 Trk.cells A n l) (hasc : Sorted l) (hn : n ≤ 1000000) :
    Calls Tryd.prog 17 #[.agg #[.slice A n c], .int .i64 m] w fun e w' => e = .returned (.tuple #[.int .i64 (lowb l m), .bool (hit l m)]) ∧ Below w.heap.size w w' := by
  go_enter Tryd.func17, Tryd.ntmps17
  go_wp2_with fail
  refine (bsearch_any A n c l m _ ((hs.below ((Below.refl _ _).alloc (Nat.le_refl _) _)).mono (by simp)) hasc hn).mono ?_
  rintro e w1 ⟨rfl, hb1⟩
  have hb : Below w.heap.size w w1 := ((Below.refl _ _).alloc (Nat.le_refl _) _).trans (hb1.mono (by simp))
  go_wp2
  go_ret2
  exact ⟨rfl, hb⟩

/-- The reference's linear search. -/
theorem at_any (A : Option Addr) (n c : Nat) (l : List Trk) (m : Int) (w : World) (hs : Sl w w.heap.size 3 Trk.cells A n l) (hn : n ≤ 1000000) :
    Calls Tryd.prog 19 #[.agg #[.slice A n c], .int .i64 m] w fun e w' => e = .returned (.tuple #[.int .i64 (lowb l m), .bool (hit l m)]) ∧ Below w.heap.size w w' := by
  have HL := Lib.hid hs.len
  go_enter Tryd.func19, Tryd.ntmps19
  go_wp2_with fail
  obtain ⟨W, hW⟩ : ∃ W, W = w.alloc (.cells #[.slice A n c] 26) := ⟨_, rfl⟩
  rw [← hW]
  have hbW : Below w.heap.size w W := by rw [hW]; exact (Below.refl _ _).alloc (Nat.le_refl _) _
  have hWz : W.heap.size = w.heap.size + 1 := by rw [hW]; simp
  have HQ := Lib.hid (show W.cell? ⟨w.heap.size, 0, none⟩ = some (.slice A n c) from by rw [hW]; simp)
  have HZ := Lib.hid hWz
  clear hW hWz
  go_loopw [11] (fun i wr => ∃ k : Nat, k ≤ n ∧ i = .int .i64 k ∧ Hid (∀ (j : Nat) (x : Trk), j < k → l[j]? = some x → x.key < m) ∧ Below W.heap.size W wr) (fun i _ => n - (intOf i).toNat)
  case atStart => exact ⟨0, Nat.zero_le _, rfl, Lib.hid (fun j x h => absurd h (by omega)), Below.refl _ _⟩
  case round =>
    obtain ⟨k, hk, rfl, hlo, hb⟩ := hrel
    have q0 := (hb.cell (p := ⟨w.heap.size, 0, none⟩) (by simp [HZ.out])).trans HQ.out
    have hlz : w.heap.size < wr.heap.size := by have := hb.size; have := HZ.out; omega
    have hbw : Below w.heap.size w wr := hbW.trans (hb.mono hbW.size)
    by_cases hlt : k < n
    · obtain ⟨ab, ao, rfl, hlow, hat⟩ := hs.at_ (by omega)
      obtain ⟨x, hx⟩ : ∃ x, l[k]? = some x := ⟨_, List.getElem?_eq_getElem (by rw [HL.out]; exact hlt)⟩
      have c0 : wr.cell? ⟨ab, ao + k * 3, none⟩ = some (.int .i64 x.key) := (belc hbw hlow).trans (hat k x hx 0 _ rfl)
      have c1 : wr.cell? ⟨ab, ao + k * 3 + 1, none⟩ = some (.int .i64 x.to) := (belc hbw hlow).trans (hat k x hx 1 _ rfl)
      have c2 : wr.cell? ⟨ab, ao + k * 3 + 2, none⟩ = some (.int .i64 x.cnt) := (belc hbw hlow).trans (hat k x hx 2 _ rfl)
      by_cases hxm : x.key < m
      · have HX := Lib.hid hx
        have HXM := Lib.hid hxm
        have g : decide (m ≤ x.key) = false := by simp; omega
        clear hat hx hxm
        go_wp2
        go_roundw
        case rel =>
          refine ⟨k + 1, by omega, by go_num, Lib.hid (fun j y hj hy => ?_), hb.alloc hb.size _⟩
          by_cases hjk : j = k
          · subst hjk; rw [HX.out] at hy; injection hy with hy; subst hy; exact HXM.out
          · exact hlo.out j y (by omega) hy
        case measure => simp [intOf]; omega
      · have hp : lowb l m = k := lowb_of (by rw [HL.out]; omega) hlo.out (fun t ht => by rw [hx] at ht; injection ht with ht; subst ht; omega)
        have HH := Lib.hid (show hit l m = (x.key == m) from hit_at (by rw [hp]; exact hx))
        have HP := Lib.hid hp
        have g : m ≤ x.key := by omega
        clear hat hx hxm hp
        go_wp2
        go_quiet (fail)
        go_wp2
        go_ret2
        exact ⟨by rw [HH.out, HP.out]; rfl, below_drewN (hbw.alloc hbw.size _) _⟩
    · obtain rfl : k = n := by omega
      have HP := Lib.hid (show lowb l m = k from by rw [← HL.out]; exact lowb_end (fun j u hj hu => hlo.out j u (by rw [← HL.out]; exact hj) hu))
      have HH := Lib.hid (show hit l m = false from hit_none (by rw [HP.out, HL.out]; exact Nat.le_refl _))
      go_wp2
      go_ret2
      exact ⟨by rw [HH.out, HP.out]; rfl, hbw⟩
end Go.Proofs.YtbmembmiejmoaaaDoor
