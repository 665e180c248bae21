/- The search for a pair; the count of one. -/
import Derived.Test.YteeglmlmconbmaaA
import Derived.Deep.DeepCutAuto
import Derived.Deep.CutBlock
namespace Go.Proofs.Yteeglmlmconbmaa
open Go.RowKit

theorem cmpP_neg {x : Pr} {a b : Int} (h : Bef x a b) : cmpP x a b = -1 := by
  unfold Bef at h
  unfold cmpP orI
  rcases h with h | ⟨h, h2⟩
  · have : cmpI x.a a = -1 := by simp [cmpI, h]
    simp [this]
  · have e : cmpI x.a a = 0 := by simp only [cmpI]; rw [if_neg (by omega), if_neg (by omega)]
    have : cmpI x.b b = -1 := by simp [cmpI, h2]
    simp [e, this]
theorem cmpP_nn {x : Pr} {a b : Int} (h : ¬ Bef x a b) : (cmpP x a b = 0 ∧ isB x a b = true) ∨ (cmpP x a b = 1 ∧ isB x a b = false) := by
  unfold Bef at h
  unfold cmpP orI isB
  by_cases h1 : x.a = a
  · have e : cmpI x.a a = 0 := by simp only [cmpI]; rw [if_neg (by omega), if_neg (by omega)]
    rw [if_pos e]
    by_cases h2 : x.b = b
    · left
      refine ⟨?_, by simp [h1, h2]⟩
      simp only [cmpI]; rw [if_neg (by omega), if_neg (by omega)]
    · right
      refine ⟨?_, by simp [h2]⟩
      simp only [cmpI]; rw [if_neg (by omega), if_pos (by omega)]
  · have e : cmpI x.a a = 1 := by simp only [cmpI]; rw [if_neg (by omega), if_pos (by omega)]
    right
    refine ⟨by rw [if_neg (by omega)]; exact e, by simp [h1]⟩

set_option maxRecDepth 100000 in
set_option maxHeartbeats 2000000 in
theorem bsearch_any (A : Option Addr) (n c : Nat) (l : List Pr) (ma mb : Int) (w : World) (hs : Sl w w.heap.size 3 Pr.cells A n l) (hasc : Sorted l) (hn : n ≤ 1000000) :
    Calls Try.prog 17 #[.slice A n c, .agg #[.int .i64 ma, .int .i64 mb, .int .i64 0], .func (.func 18) #[] #[]] w fun e w' => e = .returned (.tuple #[.int .i64 (lowb l ma mb), .bool (hit l ma mb)]) ∧ Below w.heap.size w w' := by
  have HL := Lib.hid hs.len
  have HA := Lib.hid hasc
  clear hasc
  obtain ⟨W, hW⟩ : ∃ W, W = w.alloc (.cells #[.int .i64 ma, .int .i64 mb, .int .i64 0] 28) := ⟨_, rfl⟩
  have hbW : Below w.heap.size w W := by rw [hW]; exact (Below.refl _ _).alloc (Nat.le_refl _) _
  have hlW : w.heap.size < W.heap.size := by rw [hW]; simp
  have T0 := Lib.hid (show W.cell? ⟨w.heap.size, 0, none⟩ = some (.int .i64 ma) from (by rw [hW, cell_new _ _ _ _ _ (by simp <;> omega)]; rfl))
  have T1 := Lib.hid (show W.cell? ⟨w.heap.size, 1, none⟩ = some (.int .i64 mb) from (by rw [hW, cell_new _ _ _ _ _ (by simp <;> omega)]; rfl))
  have T2 := Lib.hid (show W.cell? ⟨w.heap.size, 2, none⟩ = some (.int .i64 0) from (by rw [hW, cell_new _ _ _ _ _ (by simp <;> omega)]; rfl))
  go_enter Try.func17, Try.ntmps17
  go_wp2_with fail
  rw [← hW]
  clear hW
  go_loopw [9, 10, 11] (fun i j h wr => ∃ a b : Nat, a ≤ b ∧ b ≤ n ∧ i = .int .i64 a ∧ j = .int .i64 b ∧ Hid (∀ (k : Nat) (x : Pr), k < a → l[k]? = some x → Bef x ma mb) ∧ Hid (∀ (k : Nat) (x : Pr), b ≤ k → l[k]? = some x → ¬ Bef x ma mb) ∧ Below W.heap.size W wr) (fun i j _ _ => (intOf j).toNat - (intOf i).toNat)
  case atStart => exact ⟨0, n, by omega, by omega, rfl, rfl, by intro k x h; omega, by intro k x h hx; have := (List.getElem?_eq_some_iff.1 hx).1; rw [HL.out] at this; omega, Below.refl _ _⟩
  case round =>
    obtain ⟨a, b, hab, hbn, rfl, rfl, hlo, hhi, hb⟩ := hrel
    have t0 := (belc hb hlW).trans T0.out
    have t1 := (belc hb hlW).trans T1.out
    have t2 := (belc hb hlW).trans T2.out
    have hlr : w.heap.size < wr.heap.size := by have := hb.size; omega
    have hbw : Below w.heap.size w wr := hbW.trans (hb.mono hbW.size)
    by_cases hlt : a < b
    · have hltI : (a : Int) < b := by omega
      obtain ⟨h, hh⟩ : ∃ h : Nat, h = (a + b) / 2 := ⟨_, rfl⟩
      have hmid : ((a : Int) + (b : Int)) / 2 = (h : Int) := by omega
      have h0 : a ≤ h := by omega
      have h1 : h < b := by omega
      obtain ⟨ab, ao, rfl, hlow, hat⟩ := hs.at_ (by omega)
      obtain ⟨x, hx⟩ : ∃ x, l[h]? = some x := ⟨_, List.getElem?_eq_getElem (by rw [HL.out]; omega)⟩
      have c0 : wr.cell? ⟨ab, ao + h * 3, none⟩ = some (.int .i64 x.a) := (belc hbw hlow).trans (hat h x hx 0 _ rfl)
      have c1 : wr.cell? ⟨ab, ao + h * 3 + 1, none⟩ = some (.int .i64 x.b) := (belc hbw hlow).trans (hat h x hx 1 _ rfl)
      have c2 : wr.cell? ⟨ab, ao + h * 3 + 2, none⟩ = some (.int .i64 x.cnt) := (belc hbw hlow).trans (hat h x hx 2 _ rfl)
      have HX := Lib.hid hx
      have hhI : (h : Int) < (n : Int) := by omega
      have hh0 : (0 : Int) ≤ (h : Int) := by omega
      clear hat hx hh
      obtain ⟨z, hz⟩ : ∃ z, z = cmpP x ma mb := ⟨_, rfl⟩
      have HZ := Lib.hid hz
      clear hz
      go_upto_region 5 with fail
      go_cut [31] (fun s31 wx => s31 = .bool (decide (z < 0)) ∧ Hid (Below wr.heap.size wr wx))
      case first =>
        go_region_held3 (fun w' => w'.cell? ⟨ab, ao + h * 3, none⟩ = some (.int .i64 x.a) ∧ w'.cell? ⟨ab, ao + h * 3 + 1, none⟩ = some (.int .i64 x.b) ∧ w'.cell? ⟨ab, ao + h * 3 + 2, none⟩ = some (.int .i64 x.cnt) ∧ w'.cell? ⟨w.heap.size, 0, none⟩ = some (.int .i64 ma) ∧ w'.cell? ⟨w.heap.size, 1, none⟩ = some (.int .i64 mb) ∧ w'.cell? ⟨w.heap.size, 2, none⟩ = some (.int .i64 0))
          (first | exact ⟨c0, c1, c2, t0, t1, t2⟩ | exact ⟨c01, c11, c21, t01, t11, t21⟩)
          (first | (go_at_call 18; refine (compare_any x ma mb 0 wr.drew).mono ?_; rintro e w1 ⟨rfl, hb1⟩; rw [← HZ.out]; have hb1 : Below wr.heap.size wr w1 := (Below.drew (Below.refl _ _)).trans hb1; have hlab : ab < wr.heap.size := Nat.lt_of_lt_of_le hlow hbw.size; have c01 := (belc hb1 hlab).trans c0; have c11 := (belc hb1 hlab).trans c1; have c21 := (belc hb1 hlab).trans c2; have t01 := (belc hb1 hlr).trans t0; have t11 := (belc hb1 hlr).trans t1; have t21 := (belc hb1 hlr).trans t2))
        all_goals
          go_wp2_with fail
          go_meet
          exact ⟨rfl, hb1⟩
      case rest =>
        obtain ⟨rfl, hcb⟩ := hcut
        rename World => w1
        by_cases hxm : Bef x ma mb
        · have g : decide (z < 0) = true := by rw [HZ.out, cmpP_neg hxm]; rfl
          have HXM := Lib.hid hxm
          rw [g]
          clear hxm g
          go_wp2
          go_roundw
          case rel =>
            refine ⟨h + 1, b, by omega, by omega, by go_num, rfl, fun k y hk hy => ?_, hhi, hb.trans (hcb.out.mono hb.size)⟩
            by_cases hkh : k = h
            · subst hkh; rw [HX.out] at hy; injection hy with hy; subst hy; exact HXM.out
            · have h1 := HA.out k h y x (by omega) hy HX.out; have h2 := HXM.out; unfold Bef at *; omega
          case measure => simp [intOf]; omega
        · have g : decide (z < 0) = false := by rw [HZ.out]; rcases cmpP_nn hxm with ⟨e, _⟩ | ⟨e, _⟩ <;> rw [e] <;> rfl
          have HXM := Lib.hid hxm
          rw [g]
          clear hxm g
          go_wp2
          go_roundw
          case rel =>
            refine ⟨a, h, by omega, by omega, rfl, by go_num, hlo, fun k y hk hy => ?_, hb.trans (hcb.out.mono hb.size)⟩
            by_cases hkh : k = h
            · subst hkh; rw [HX.out] at hy; injection hy with hy; subst hy; exact HXM.out
            · have h1 := HA.out h k x y (by omega) HX.out hy; have h2 := HXM.out; unfold Bef at *; omega
          case measure => simp [intOf]; omega
    · obtain rfl : a = b := by omega
      have hpos : lowb l ma mb = a := lowb_of (by rw [HL.out]; omega) hlo.out (fun x hx => hhi.out a x (Nat.le_refl _) hx)
      by_cases han : a < n
      · have hanI : (a : Int) < n := by omega
        obtain ⟨ab, ao, rfl, hlow, hat⟩ := hs.at_ (by omega)
        obtain ⟨x, hx⟩ : ∃ x, l[a]? = some x := ⟨_, List.getElem?_eq_getElem (by rw [HL.out]; omega)⟩
        have c0 : wr.cell? ⟨ab, ao + a * 3, none⟩ = some (.int .i64 x.a) := (belc hbw hlow).trans (hat a x hx 0 _ rfl)
        have c1 : wr.cell? ⟨ab, ao + a * 3 + 1, none⟩ = some (.int .i64 x.b) := (belc hbw hlow).trans (hat a x hx 1 _ rfl)
        have c2 : wr.cell? ⟨ab, ao + a * 3 + 2, none⟩ = some (.int .i64 x.cnt) := (belc hbw hlow).trans (hat a x hx 2 _ rfl)
        have hge : ¬ Bef x ma mb := hhi.out a x (Nat.le_refl _) hx
        obtain ⟨z, hz⟩ : ∃ z, z = cmpP x ma mb := ⟨_, rfl⟩
        have HT := Lib.hid (show hit l ma mb = (z == 0) by
          rw [hit_at (by rw [hpos]; exact hx), hz]
          rcases cmpP_nn hge with ⟨e, f⟩ | ⟨e, f⟩ <;> rw [e, f] <;> rfl)
        have HP := Lib.hid hpos
        have HZ := Lib.hid hz
        have ha0 : (0 : Int) ≤ (a : Int) := by omega
        clear hat hx hpos hge hz
        go_wp2_with fail
        go_region_held3 (fun w' => w'.cell? ⟨ab, ao + a * 3, none⟩ = some (.int .i64 x.a) ∧ w'.cell? ⟨ab, ao + a * 3 + 1, none⟩ = some (.int .i64 x.b) ∧ w'.cell? ⟨ab, ao + a * 3 + 2, none⟩ = some (.int .i64 x.cnt) ∧ w'.cell? ⟨w.heap.size, 0, none⟩ = some (.int .i64 ma) ∧ w'.cell? ⟨w.heap.size, 1, none⟩ = some (.int .i64 mb) ∧ w'.cell? ⟨w.heap.size, 2, none⟩ = some (.int .i64 0))
          (first | exact ⟨c0, c1, c2, t0, t1, t2⟩ | exact ⟨c01, c11, c21, t01, t11, t21⟩)
          (first | (go_at_call 18; refine (compare_any x ma mb 0 wr.drew).mono ?_; rintro e w1 ⟨rfl, hb1⟩; rw [← HZ.out]; have hb1 : Below wr.heap.size wr w1 := (Below.drew (Below.refl _ _)).trans hb1; have hlab : ab < wr.heap.size := Nat.lt_of_lt_of_le hlow hbw.size; have c01 := (belc hb1 hlab).trans c0; have c11 := (belc hb1 hlab).trans c1; have c21 := (belc hb1 hlab).trans c2; have t01 := (belc hb1 hlr).trans t0; have t11 := (belc hb1 hlr).trans t1; have t21 := (belc hb1 hlr).trans t2))
        all_goals
          go_wp2
          go_ret2
          exact ⟨by rw [HT.out, HP.out]; rfl, hbw.trans (hb1.mono hbw.size)⟩
      · obtain rfl : a = n := by omega
        have HT := Lib.hid (show hit l ma mb = false from hit_none (by rw [hpos, HL.out]; exact Nat.le_refl _))
        have HP := Lib.hid hpos
        clear hpos
        go_wp2
        go_quiet (fail)
        go_wp2
        go_ret2
        exact ⟨by rw [HT.out, HP.out]; rfl, below_drewN hbw _⟩

theorem search_any (A : Option Addr) (n c : Nat) (l : List Pr) (a b : Int) (w : World) (hs : Sl w w.heap.size 3 Pr.cells A n l) (hasc : Sorted l) (hn : n ≤ 1000000) :
    Calls Try.prog 13 #[.agg #[.slice A n c], .int .i64 a, .int .i64 b] w fun e w' => e = .returned (.tuple #[.int .i64 (lowb l a b), .bool (hit l a b)]) ∧ Below w.heap.size w w' := by
  go_enter Try.func13, Try.ntmps13
  go_wp2_with fail
  refine (bsearch_any A n c l a b _ ((hs.below ((Below.refl _ _).alloc (Nat.le_refl _) _)).mono (by simp)) hasc hn).mono ?_
  rintro e w1 ⟨rfl, hb1⟩
  have hb : Below w.heap.size w w1 := ((Below.refl _ _).alloc (Nat.le_refl _) _).trans (hb1.mono (by simp))
  go_wp2
  go_ret2
  exact ⟨rfl, hb⟩

set_option maxHeartbeats 400000 in
theorem count_any (A : Option Addr) (n c : Nat) (ts : List Pr) (a b : Int) (w : World) (hs : Sl w w.heap.size 3 Pr.cells A n ts) (hsort : Sorted ts) (hn : n ≤ 1000000) :
    Calls Try.prog 9 #[.agg #[.slice A n c], .int .i64 a, .int .i64 b] w fun e w' => e = .returned (.int .i64 (countP ts a b)) ∧ Below w.heap.size w w' := by
  have HS := Lib.hid hsort
  have HN := Lib.hid hs.len
  clear hsort
  go_enter Try.func9, Try.ntmps9
  go_wp2_with fail
  refine (search_any A n c ts a b _ ((hs.below ((Below.refl _ _).alloc (Nat.le_refl _) _)).mono (by simp)) HS.out hn).mono ?_
  rintro e w' ⟨rfl, hb⟩
  have hb1 : Below w.heap.size w w' := ((Below.refl _ _).alloc (Nat.le_refl _) _).trans (hb.mono (by simp))
  have hz := hb.size
  simp only [World.size_alloc] at hz
  have hp : w'.cell? ⟨w.heap.size, 0, none⟩ = some (.slice A n c) := (hb.cell (p := ⟨w.heap.size, 0, none⟩) (by simp)).trans (by simp)
  by_cases hh : hit ts a b = true
  · obtain ⟨t, ht, _, _⟩ := hit_some hh
    have hle : lowb ts a b < n := by rw [← HN.out]; exact (List.getElem?_eq_some_iff.1 ht).1
    have HV := Lib.hid (count_hit ht hh)
    obtain ⟨k, hk⟩ : ∃ k, k = lowb ts a b := ⟨_, rfl⟩
    rw [← hk] at ht hle
    rw [← hk]
    obtain ⟨ab, ao, rfl, hlo, hat⟩ := hs.at_ (by omega)
    have c1 : w'.cell? ⟨ab, ao + k * 3 + 2, none⟩ = some (.int .i64 t.cnt) := (hb1.cell (p := ⟨ab, _, none⟩) hlo).trans (hat k t ht 2 _ rfl)
    have HH := Lib.hid hh
    clear ht hat hk hh
    rw [HH.out]
    go_wp2
    go_ret
    exact ⟨by rw [HV.out]; rfl, hb1⟩
  · have hh : hit ts a b = false := by simpa using hh
    have HV := Lib.hid (count_miss hh)
    have HH := Lib.hid hh
    clear hh
    rw [HH.out]
    go_wp2
    go_ret
    exact ⟨by rw [HV.out]; rfl, hb1⟩
end Go.Proofs.Yteeglmlmconbmaa
