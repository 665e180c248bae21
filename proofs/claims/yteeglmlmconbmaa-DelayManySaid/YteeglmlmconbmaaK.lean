/- DelayMany's walk. -/
import Derived.Test.YteeglmlmconbmaaJ
import Derived.Test.YteeglmlmconbmaaE
import Derived.Test.YteeglmlmconbmaaF
import Derived.Test.YteeglmlmconbmaaDMod
import Derived.Deep.RegionHeld3
import Derived.Deep.DeepCutAuto
import Derived.Deep.CutBlock
namespace Go.Proofs.Yteeglmlmconbmaa
open Go.RowKit

def tabAt (i : Nat) : Pr := ⟨5, 2 * i, 1048576 - (i : Int) % 3⟩
def tab (k : Nat) : List Pr := (List.range k).map tabAt
theorem tab_succ (k : Nat) : tab (k + 1) = tab k ++ [tabAt k] := by simp [tab, List.range_succ]
theorem tab_len (k : Nat) : (tab k).length = k := by simp [tab]
theorem tab_get {k i : Nat} {x : Pr} (h : (tab k)[i]? = some x) : i < k ∧ x = tabAt i := by
  have hi : i < k := by have := (List.getElem?_eq_some_iff.1 h).1; rwa [tab_len] at this
  refine ⟨hi, ?_⟩
  unfold tab at h
  rw [List.getElem?_map, List.getElem?_range hi] at h
  injection h with h
  exact h.symm
theorem tab_good (k : Nat) : Good (tab k) := by
  refine ⟨fun i j u v hij hu hv => ?_, fun i t h => ?_⟩
  · obtain ⟨_, rfl⟩ := tab_get hu
    obtain ⟨_, rfl⟩ := tab_get hv
    exact .inr ⟨rfl, by show (2 * (i : Int)) < 2 * (j : Int); omega⟩
  · obtain ⟨_, rfl⟩ := tab_get h
    show 1 ≤ 1048576 - (i : Int) % 3 ∧ 1048576 - (i : Int) % 3 ≤ 1048576
    omega

set_option maxRecDepth 100000 in
set_option maxHeartbeats 4000000 in
theorem many_any (n a b : Int) (w : World) (hn : -9223372036854775808 ≤ n ∧ n ≤ 9223372036854775807) (ha : -9223372036854775808 ≤ a ∧ a ≤ 9223372036854775807) (hb : -9223372036854775808 ≤ b ∧ b ≤ 9223372036854775807) :
    Calls Try.prog 3 #[.int .i64 n, .int .i64 a, .int .i64 b] w fun e w' => e = .returned (.bool true) ∧ Below w.heap.size w w' := by
  obtain ⟨i0, hi, hz0, hz1, hz2⟩ := info_parts CloneTrk.infoE
  have HN := Lib.hid hn
  have HA := Lib.hid ha
  have HB := Lib.hid hb
  clear hn ha hb
  obtain ⟨r, hr⟩ : ∃ r : Nat, n % 2 = r := ⟨(n % 2).toNat, by omega⟩
  have HRN := Lib.hid hr
  have hr2 : r < 2 := by omega
  clear hr
  go_enter Try.func3, Try.ntmps3
  go_wp2_with fail
  refine (sane_any _).mono ?_
  rintro e w1 ⟨rfl, hb1⟩
  have hz1' := hb1.size
  go_wp2_with fail
  go_loopw [8] (fun i wr => ∃ (k : Nat) (v : Value), k + r ≤ 256 ∧ i = .int .i64 k ∧ Hid (Out wr (w1.heap.size + 1) w1.heap.size v (tab k)) ∧ Hid (Below w1.heap.size w1 wr)) (fun i _ => 256 - (intOf i).toNat)
  case atStart => exact ⟨0, _, by omega, rfl, Lib.hid ⟨by rw [cell_new _ _ _ _ _ rfl]; rfl, by rw [frozen_new _ _ _ _ _ rfl], World.ownsRow_nil _ _ _ _, by omega, by simp⟩, Lib.hid ((Below.refl _ _).alloc (Nat.le_refl _) _)⟩
  case round =>
    obtain ⟨k, v, hk, rfl, hO, hb2⟩ := hrel
    go_wp2_with fail
    refine (mod_any n 2 wr (by omega) (by omega) HN.out).mono ?_
    rintro e w2 ⟨r', hr1, hr', rfl, hb3⟩
    obtain rfl : r' = r := by have := HRN.out; omega
    have HO2 := Lib.hid (hO.out.below hb3)
    have hl2 := HO2.out.le
    have HB2 := Lib.hid (hb2.out.trans (hb3.mono hb2.out.size))
    have c7 := HO2.out.cell
    have c7f := HO2.out.fr
    obtain ⟨l, hl⟩ : ∃ l, l = tab k := ⟨_, rfl⟩
    rw [← hl] at HO2
    have HL := Lib.hid hl
    have HLK := Lib.hid (show l.length = k from by rw [hl, tab_len])
    clear hO hb2 hb3 hr' hl
    by_cases hlt : k + r' < 256
    · have HT := Lib.hid (show tab (k + 1) = l ++ [tabAt k] from by rw [tab_succ, HL.out])
      have HBB := Lib.hid ((by repeat (first | (with_reducible exact (Below.refl w2.heap.size w2)) | (with_reducible refine Below.drew ?_) | (with_reducible refine below_drewN ?_ _) | (with_reducible refine Below.setCell ?_ ?_ _; rotate_left; (first | omega | (simp <;> omega))) | (with_reducible refine Below.alloc ?_ ?_ _; rotate_left; (first | omega | (simp <;> omega))))) : Below w2.heap.size w2 (w2.alloc (.cells #[.int .i64 5, .int .i64 (2 * (k : Int)), .int .i64 (1048576 - (k : Int) % 3)] 28)))
      have HNW := Lib.hid (show ∀ ad, (some ⟨w2.heap.size, 0, none⟩ : Option Addr) = some ad → ∀ (j : Nat) (u : Value), (Pr.cells (tabAt k))[j]? = some u → (w2.alloc (.cells #[.int .i64 5, .int .i64 (2 * (k : Int)), .int .i64 (1048576 - (k : Int) % 3)] 28)).cell? (ad.add j) = some u from fun ad h j u hu => by
        injection h with h
        subst h
        rw [Addr.add_lit, cell_new _ _ _ _ _ rfl, Nat.zero_add, List.getElem?_toArray]
        exact hu)
      go_wp2_with (at_builtin; refine wpList_append_any rfl _ _ 23 rfl (w1.heap.size + 1) 28 i0 _ 3 24 Try.underlying23 hi hz0 hz1 hz2 rfl (by decide) v l.length (l.flatMap Pr.cells) rfl (own_below HO2.out.own HBB.out) (some ⟨w2.heap.size, 0, none⟩) 1 1 (Pr.cells (tabAt k)) rfl (by intro h; cases h) rfl HNW.out (by simp [Pr.cells, Value.oneCell']) (by have := HLK.out; unfold maxLen; omega) (by have := HLK.out; omega) (by simp; omega) ?_; intro A3 c3 w3 hown3 hgr3 _; have hmo := HO2.out.more HBB.out hgr3; have u7 := hmo.1; have u7f := hmo.2.1; have hb3 := hmo.2.2)
      have HW3 := Lib.hid hown3
      have hz3 := hb3.size
      have HB3 := Lib.hid hb3
      clear hown3 hgr3 hmo hb3
      go_roundw
      case rel => exact ⟨k + 1, _, by omega, by go_num, Lib.hid (by rw [HT.out]; exact ⟨World.cell?_setCell_same _ _ _ u7, by rw [World.frozen?_setCell]; exact u7f, (by
          have h5 := HW3.out
          rw [List.length_append, List.flatMap_append]
          exact own_setCell (by simpa using h5) _ (fun e => by have := h5.lt _ e; first | omega | (simp at this <;> omega))), by omega, by simp; omega⟩), Lib.hid ((HB2.out.trans (HB3.out.mono (by omega))).setCell (Nat.le_refl _) _)⟩
      case measure => simp [intOf]; omega
    · have hke : k + r' = 256 := by omega
      obtain ⟨A', c', hv⟩ := own_form HO2.out.own (by rw [HLK.out]; omega)
      subst hv
      have HRM := Lib.hid (own_room HO2.out.own)
      have HS2 := Lib.hid (Sl.of_own Pr.size rfl HO2.out.own)
      have hbw2 : Below w.heap.size w w2 := hb1.trans (HB2.out.mono hb1.size)
      have HBW := Lib.hid hbw2
      clear hbw2
      go_wp2_with fail
      refine (mod_any b 600 w2 (by omega) (by omega) HB.out).mono ?_
      rintro e w4 ⟨r6, hr6, hr6', rfl, hb4⟩
      clear hr6'
      have hz4 := hb4.size
      go_wp2_with fail
      refine (mod_any a 9 w4 (by omega) (by omega) HA.out).mono ?_
      rintro e w5 ⟨r9, hr9, hr9', rfl, hb5⟩
      clear hr9'
      have hb25 := hb4.trans (hb5.mono hb4.size)
      have hz5 := hb5.size
      go_wp2_with fail
      obtain ⟨U, hU⟩ : ∃ U, U = w5.alloc (.cells #[.int .i64 a, .int .i64 b, .int .i64 5, .int .i64 r6, .int .i64 r9, .int .i64 4] 29) := ⟨_, rfl⟩
      rw [← hU]
      have hzU : U.heap.size = w5.heap.size + 1 := by rw [hU]; simp
      have hbU : Below w5.heap.size w5 U := by rw [hU]; exact (Below.refl _ _).alloc (Nat.le_refl _) _
      have hb2U : Below w2.heap.size w2 U := hb25.trans (hbU.mono (by omega))
      have HEL := Lib.hid (show ∀ j : Nat, j < 3 → ∃ p q : Int, U.cell? ⟨w5.heap.size, j * 2, none⟩ = some (.int .i64 p) ∧ U.cell? ⟨w5.heap.size, j * 2 + 1, none⟩ = some (.int .i64 q) from fun j hj => by
        rw [hU]
        match j, hj with
        | 0, _ => exact ⟨a, b, by rw [cell_new _ _ _ _ _ rfl]; rfl, by rw [cell_new _ _ _ _ _ rfl]; rfl⟩
        | 1, _ => exact ⟨5, r6, by rw [cell_new _ _ _ _ _ rfl]; rfl, by rw [cell_new _ _ _ _ _ rfl]; rfl⟩
        | 2, _ => exact ⟨r9, 4, by rw [cell_new _ _ _ _ _ rfl]; rfl, by rw [cell_new _ _ _ _ _ rfl]; rfl⟩)
      have HS := Lib.hid (HS2.out.up hb2U)
      have hc7 : U.cell? ⟨w1.heap.size, 0, none⟩ = some (.slice A' l.length c') := (belc hb2U (by omega)).trans HO2.out.cell
      have HC7 := Lib.hid hc7
      have HBU := Lib.hid (HBW.out.trans (hb2U.mono HBW.out.size))
      have HG := Lib.hid (show Good l from by rw [HL.out]; exact tab_good k)
      have HZU := Lib.hid (show w5.heap.size < U.heap.size ∧ w1.heap.size < U.heap.size from ⟨by omega, by omega⟩)
      have HNM := Lib.hid (show (train l 0 0).length = (train l 0 0).length from rfl)
      clear hU hzU hbU hb2U hc7 hb25 hb4 hb5 hz4 hz5 HO2 HB2 HS2 HBW c7 c7f
      go_loopw [42] (fun i wr => ∃ j : Nat, j ≤ 3 ∧ i = .int .i64 j ∧ Hid (Below U.heap.size U wr)) (fun i _ => 3 - (intOf i).toNat)
      case atStart => exact ⟨0, by omega, rfl, Lib.hid (Below.refl _ _)⟩
      case round =>
        obtain ⟨j, hj, rfl, hbr⟩ := hrel
        by_cases hj3 : j < 3
        · obtain ⟨p, q, hp, hq⟩ := HEL.out j hj3
          have c0 := (belc hbr.out HZU.out.1).trans hp
          have c1 := (belc hbr.out HZU.out.1).trans hq
          have c7 := (belc hbr.out HZU.out.2).trans HC7.out
          clear hp hq
          have hzr := hbr.out.size
          go_upto_region 11 with fail
          obtain ⟨V, hV⟩ : ∃ V, V = wr.alloc (.cells #[.int .i64 p, .int .i64 q] 29) := ⟨_, rfl⟩
          rw [← hV]
          have hbV : Below wr.heap.size wr V := by rw [hV]; exact (Below.refl _ _).alloc (Nat.le_refl _) _
          have hzV : wr.heap.size < V.heap.size := by rw [hV]; simp
          have p0 : V.cell? ⟨wr.heap.size, 0, none⟩ = some (.int .i64 p) := (by rw [hV, cell_new _ _ _ _ _ (by simp <;> omega)]; rfl)
          have p1 : V.cell? ⟨wr.heap.size, 1, none⟩ = some (.int .i64 q) := (by rw [hV, cell_new _ _ _ _ _ (by simp <;> omega)]; rfl)
          have hl7 : w1.heap.size < V.heap.size := by have := HZU.out; omega
          have p7 := (belc hbV (by have := HZU.out; omega)).trans c7
          have hUV : Below U.heap.size U V := hbr.out.trans (hbV.mono hzr)
          have HSV := Lib.hid (HS.out.up (Below.drew hUV))
          have HUV := Lib.hid hUV
          have hnl : l.length ≤ 256 := by have := HLK.out; omega
          have hnl1 : 255 ≤ l.length := by have := HLK.out; omega
          have HNL := Lib.hid (show l.length ≤ 256 ∧ 255 ≤ l.length from ⟨hnl, hnl1⟩)
          clear hV c0 c1 c7 hUV hbV hnl hnl1
          go_cut [59] (fun s59 wx => s59 = .bool false ∧ Hid (Below V.heap.size V wx))
          case first =>
            go_region_held3 (fun w' => w'.cell? ⟨w1.heap.size, 0, none⟩ = some (.slice A' l.length c') ∧ w'.cell? ⟨wr.heap.size, 0, none⟩ = some (.int .i64 p) ∧ w'.cell? ⟨wr.heap.size, 1, none⟩ = some (.int .i64 q))
              (first | exact ⟨p7, p0, p1⟩ | exact ⟨p77, p70, p71⟩ | exact ⟨p87, p80, p81⟩ | exact ⟨p97, p90, p91⟩)
              (first
                | (go_at_call 7; refine (train_any A' l.length c' l p q V.drew HSV.out (by have := HNL.out; omega) HG.out).mono ?_; rintro e w7 ⟨A7, n7, c7, rfl, hs7, hb7, _⟩; obtain rfl : n7 = (train l p q).length := hs7.len.symm; have hb7 : Below V.heap.size V w7 := (Below.drew (Below.refl _ _)).trans hb7; have p77 := (belc hb7 hl7).trans p7; have p70 := (belc hb7 hzV).trans p0; have p71 := (belc hb7 hzV).trans p1; have HS7 := Lib.hid hs7; clear hs7)
                | (go_at_call 8; refine (reftrain_any A' l.length c' l p q w7 (HS.out.up (HUV.out.trans (hb7.mono HUV.out.size))) (by have := HNL.out; omega) HG.out HRM.out.1 (fun h0 => absurd h0 (by have := HNL.out; omega))).mono ?_; rintro e w8 ⟨A8, n8, c8, rfl, hs8, hb8, _, _⟩; obtain rfl : n8 = (train l p q).length := hs8.len.symm; have hz7 := hb7.size; have hb8V : Below V.heap.size V w8 := hb7.trans (hb8.mono hz7); have p87 := (belc hb8V hl7).trans p7; have p80 := (belc hb8V hzV).trans p0; have p81 := (belc hb8V hzV).trans p1; have HS8 := Lib.hid hs8; have HS78 := Lib.hid (HS7.out.up hb8); clear hs8)
                | (go_at_call 6; refine (same_any A7 _ c7 A8 c8 (train l p q) w8 HS78.out HS8.out (by have := train_len l p q; have := HNL.out; omega)).mono ?_; rintro e w9 ⟨rfl, hb9⟩; have hz8 := hb8V.size; have hb9 : Below V.heap.size V w9 := hb8V.trans (hb9.mono hz8); have p97 := (belc hb9 hl7).trans p7; have p90 := (belc hb9 hzV).trans p0; have p91 := (belc hb9 hzV).trans p1))
            all_goals
              go_wp2_with fail
              go_meet
              exact ⟨rfl, Lib.hid hb9⟩
          case rest =>
            obtain ⟨rfl, hcb⟩ := hcut
            go_wp2
            go_roundw
            case rel => exact ⟨j + 1, by omega, by go_num, Lib.hid (HUV.out.trans (hcb.out.mono HUV.out.size))⟩
            case measure => simp [intOf]; omega
        · go_wp2
          go_ret
          exact ⟨rfl, HBU.out.trans (hbr.out.mono HBU.out.size)⟩
end Go.Proofs.Yteeglmlmconbmaa
