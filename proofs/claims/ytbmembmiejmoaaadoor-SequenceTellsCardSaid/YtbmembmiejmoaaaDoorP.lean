/- SequenceTells, walked. -/
import Derived.Test.YtbmembmiejmoaaaDoorO
import Derived.Deep.RegionHeld3
import Derived.Deep.CutBlock
import Derived.Deep.DeepCutAuto
namespace Go.Proofs.YtbmembmiejmoaaaDoor
open Go.RowKit

def ttn (ks vs : List Int) : Nat → List Trk
  | 0 => []
  | k + 1 => train (ttn ks vs k) ((ks.getD k 0).tmod 8) ((vs.getD k 0).tmod 5)
theorem ttn_good (ks vs : List Int) : ∀ k, Good (ttn ks vs k) ∧ (ttn ks vs k).length ≤ k
  | 0 => ⟨good_nil, by simp [ttn]⟩
  | k + 1 => by
    have ih := ttn_good ks vs k
    exact ⟨train_good ih.1 _ _, by have := train_len (ttn ks vs k) ((ks.getD k 0).tmod 8) ((vs.getD k 0).tmod 5); simp only [ttn]; omega⟩

set_option maxRecDepth 100000 in
set_option maxHeartbeats 8000000 in
theorem tells_any (KA : Option Addr) (kn kc : Nat) (VA : Option Addr) (vn vc : Nat) (ks vs : List Int) (at_ : Int) (w : World) (ht : Tab w)
    (hk : Sl w w.heap.size 1 i8Cells KA kn ks) (hv : Sl w w.heap.size 1 i8Cells VA vn vs) (hkn : kn ≤ 9223372036854775807) (hvn : vn ≤ 9223372036854775807) (hks : ∀ (i : Nat) (k : Int), ks[i]? = some k → -128 ≤ k ∧ k ≤ 127) (hvs : ∀ (i : Nat) (k : Int), vs[i]? = some k → -128 ≤ k ∧ k ≤ 127)
    (hat : -9223372036854775808 ≤ at_ ∧ at_ ≤ 9223372036854775807) :
    Calls Tryd.prog 3 #[.slice KA kn kc, .slice VA vn vc, .int .i64 at_] w fun e w' => e = .returned (.bool true) ∧ Below w.heap.size w w' := by
  have HK := Lib.hid hk.len
  have HV := Lib.hid hv.len
  have HKS := Lib.hid hks
  have HVS := Lib.hid hvs
  clear hks hvs
  go_enter Tryd.func3, Tryd.ntmps3
  go_wp2_with fail
  refine (sane_any w ht).mono ?_
  rintro e w1 ⟨rfl, hb1⟩
  have hz1 := hb1.size
  go_upto_block 0 with fail
  go_cut [] (fun wx => Hid (∃ ts A n c, Good ts ∧ n ≤ 60 ∧ Var wx w1.heap.size A n c ts ∧ Below w.heap.size w wx))
  case first =>
    go_wp2_with fail
    go_loopg [8] 60 (fun gk i wr => ∃ (k : Nat) (A : Option Addr) (n c : Nat), k + gk = 60 ∧ i = .int .i64 k ∧ Hid (Var wr w1.heap.size A n c (ttn ks vs k)) ∧ Below w.heap.size w wr)
    case atStart => exact ⟨0, none, 0, 0, by omega, rfl, Lib.hid (Var.new w1), hb1.alloc hz1 _⟩
    case round =>
      obtain ⟨k, A, n, c, hk60, rfl, hs, hb⟩ := hrel
      have HG := Lib.hid (ttn_good ks vs k)
      have hn60 : n ≤ 60 := by rw [← hs.out.sl.len]; have := HG.out.2; omega
      have hp := hs.out.cell
      have hz := hs.out.lt
      by_cases hlt : k < kn ∧ k < vn ∧ k < 60
      · obtain ⟨h1, h2, h3⟩ := hlt
        obtain ⟨kb, ko, rfl, hkb, hkat⟩ := hk.at_ (by omega)
        obtain ⟨vb, vo, rfl, hvb, hvat⟩ := hv.at_ (by omega)
        obtain ⟨q, hq⟩ : ∃ q, ks[k]? = some q := ⟨_, List.getElem?_eq_getElem (by rw [HK.out]; exact h1)⟩
        obtain ⟨x, hx⟩ : ∃ x, vs[k]? = some x := ⟨_, List.getElem?_eq_getElem (by rw [HV.out]; exact h2)⟩
        have c0 : w.cell? ⟨kb, ko + k, none⟩ = some (.int .i8 q) := by have h := hkat k q hq 0 _ rfl; rwa [Nat.mul_one, Nat.add_zero] at h
        have d0 : w.cell? ⟨vb, vo + k, none⟩ = some (.int .i8 x) := by have h := hvat k x hx 0 _ rfl; rwa [Nat.mul_one, Nat.add_zero] at h
        obtain ⟨hq0, hq1⟩ := HKS.out k q hq
        obtain ⟨hx0, hx1⟩ := HVS.out k x hx
        have HTR := Lib.hid (show train (ttn ks vs k) (q.tmod 8) (x.tmod 5) = ttn ks vs (k + 1) from by
          simp only [ttn]
          rw [List.getD_eq_getElem?_getD, hq, List.getD_eq_getElem?_getD, hx]; rfl)
        clear hq hx hkat hvat
        go_wp2_with fail
        refine (keep_any A n c _ wr hs.out.sl (by omega)).mono ?_
        rintro e w2 ⟨A2, c2, rfl, hs2, hb2⟩
        have hz2 := hb2.size
        have V2 := Lib.hid (hs.out.below hb2)
        have hbw2 : Below w.heap.size w w2 := hb.trans (hb2.mono hb.size)
        clear hp hz hs
        go_wp2_with fail
        obtain ⟨W2, hW2⟩ : ∃ W2, W2 = w2.alloc (.cells #[.slice A2 n c2] 26) := ⟨_, rfl⟩
        rw [← hW2]
        have hZ2 : W2.heap.size = w2.heap.size + 1 := by rw [hW2]; simp
        have hb2W : Below w2.heap.size w2 W2 := by rw [hW2]; exact (Below.refl _ _).alloc (Nat.le_refl _) _
        have k2 : W2.cell? ⟨w2.heap.size, 0, none⟩ = some (.slice A2 n c2) := by rw [hW2]; simp
        have V3 := Lib.hid (V2.out.below hb2W)
        have p3 := V3.out.cell
        have hbW2 : Below w.heap.size w W2 := hbw2.trans (hb2W.mono hbw2.size)
        have HSK := Lib.hid ((hs2.below hb2W).mono hb2W.size)
        have c0 := (belc hbW2 hkb).trans c0
        have d0 := (belc hbW2 hvb).trans d0
        have hkl : w2.heap.size < W2.heap.size := by omega
        have hpl := V3.out.lt
        clear hW2 hs2 V2 hZ2
        go_upto_region 8 with fail
        go_cut [10, 11] (fun s10 s11 wx => s10 = .int .i64 (q.tmod 8) ∧ s11 = .int .i64 (x.tmod 5) ∧ Hid (Below W2.heap.size W2 wx))
        case first =>
          go_quiet (fail)
          go_wp2
          go_meet
          exact ⟨rfl, rfl, Lib.hid (below_drewN (Below.refl _ _) _)⟩
        case rest =>
          obtain ⟨rfl, rfl, hcb⟩ := hcut
          rename World => w3
          have V4 := Lib.hid (V3.out.below hcb.out)
          have p3 := V4.out.cell
          have k2 := (belc hcb.out hkl).trans k2
          have HSK := Lib.hid (HSK.out.up hcb.out)
          have hbw3 : Below w.heap.size w w3 := hbW2.trans (hcb.out.mono hbW2.size)
          have hkl : w2.heap.size < w3.heap.size := by have := hcb.out.size; omega
          have hpl3 := V4.out.lt
          obtain ⟨kk, hkk⟩ : ∃ kk, kk = q.tmod 8 := ⟨_, rfl⟩
          obtain ⟨xx, hxx⟩ : ∃ xx, xx = x.tmod 5 := ⟨_, rfl⟩
          have HTR := Lib.hid (show train (ttn ks vs k) kk xx = ttn ks vs (k + 1) from by rw [hkk, hxx]; exact HTR.out)
          rw [← hkk, ← hxx]
          clear V3 hcb c0 d0 hkk hxx
          go_wp2_with fail
          refine (train_any A n c _ kk xx w3 V4.out.sl (by omega) HG.out.1).mono ?_
          rintro e w4 ⟨A4, n4, c4, rfl, hs4, hb4, hlo4⟩
          rw [HTR.out] at hs4
          go_wp2_with fail
          obtain ⟨W4, hW4⟩ : ∃ W, W = w4.alloc (.cells #[.slice A4 n4 c4] 26) := ⟨_, rfl⟩
          rw [← hW4]
          have hZ4 : W4.heap.size = w4.heap.size + 1 := by rw [hW4]; simp
          have hb4W : Below w4.heap.size w4 W4 := by rw [hW4]; exact (Below.refl _ _).alloc (Nat.le_refl _) _
          have x4 : W4.cell? ⟨w4.heap.size, 0, none⟩ = some (.slice A4 n4 c4) := by rw [hW4]; simp
          have hb34 : Below w3.heap.size w3 W4 := hb4.trans (hb4W.mono hb4.size)
          have V5 := Lib.hid (V4.out.below hb34)
          have p5 := V5.out.cell
          have k5 := (belc hb34 hkl).trans k2
          have HSK5 := Lib.hid (HSK.out.up hb34)
          have HS5 := Lib.hid (hs4.up hb4W)
          have hbw4 : Below w.heap.size w W4 := hbw3.trans (hb34.mono hbw3.size)
          have hxl : w4.heap.size < W4.heap.size := by omega
          have hkl5 : w2.heap.size < W4.heap.size := by have := hb34.size; omega
          have hpl5 := V5.out.lt
          have HLO := Lib.hid (show ∀ ad, A4 = some ad → w3.heap.size ≤ ad.block from hlo4)
          have hn4 : n4 ≤ 61 := by rw [← HS5.out.len]; have := (ttn_good ks vs (k + 1)).2; omega
          clear hW4 hs4 hlo4 V4 p3 k2 HSK hZ4
          go_cut [67] (fun s67 wx => s67 = .bool false ∧ Hid (Below W4.heap.size W4 wx))
          case first =>
            have S0 : Sl W4.drew W4.drew.heap.size 3 Trk.cells A n (ttn ks vs k) := V5.out.sl.below (Below.drew (Below.refl _ _))
            go_region_held3 (fun w' => w'.cell? ⟨w4.heap.size, 0, none⟩ = some (.slice A4 n4 c4) ∧ w'.cell? ⟨w1.heap.size, 0, none⟩ = some (.slice A n c) ∧ w'.cell? ⟨w2.heap.size, 0, none⟩ = some (.slice A2 n c2))
              (first | exact ⟨x4, p5, k5⟩ | exact ⟨x6, p6, k6⟩ | exact ⟨x7, p7, k7⟩ | exact ⟨x8, p8, k8⟩)
              (first
                | (go_at_call 10; refine (reftrain_any A n c _ kk xx W4.drew S0 (by omega) HG.out.1).mono ?_; rintro e w6 ⟨A6, n6, c6, rfl, hs6, hb6, hlo6⟩; rw [HTR.out] at hs6; have hn6 : n4 = n6 := (by rw [← hs6.len, ← HS5.out.len]); subst hn6; have hb6 : Below W4.heap.size W4 w6 := (Below.drew (Below.refl _ _)).trans hb6; have x6 := (belc hb6 hxl).trans x4; have p6 := (belc hb6 hpl5).trans p5; have k6 := (belc hb6 hkl5).trans k5; have HS6 := Lib.hid hs6; have HS56 := Lib.hid (HS5.out.up hb6); clear hs6 hlo6)
                | (go_at_call_of 9 (Value.agg #[Value.slice A4 n4 c4]); refine (same_any A4 n4 c4 A6 c6 _ w6 HS56.out HS6.out (by omega)).mono ?_; rintro e w7 ⟨rfl, hb7⟩; have hz6 := hb6.size; have hb7 : Below W4.heap.size W4 w7 := hb6.trans (hb7.mono hz6); have x7 := (belc hb7 hxl).trans x4; have p7 := (belc hb7 hpl5).trans p5; have k7 := (belc hb7 hkl5).trans k5)
                | (go_at_call_of 9 (Value.agg #[Value.slice A n c]); refine (same_any A n c A2 c2 _ w7 (V5.out.sl.up hb7) (HSK5.out.up hb7) (by omega)).mono ?_; rintro e w8 ⟨rfl, hb8⟩; have hz7 := hb7.size; have hb8 : Below W4.heap.size W4 w8 := hb7.trans (hb8.mono hz7); have x8 := (belc hb8 hxl).trans x4; have p8 := (belc hb8 hpl5).trans p5; have k8 := (belc hb8 hkl5).trans k5))
            all_goals
              go_wp2_with fail
              go_meet
              exact ⟨rfl, hb8⟩
          case rest =>
            obtain ⟨rfl, hb8⟩ := hcut
            rename World => w8
            have V8 := Lib.hid (V5.out.below hb8.out)
            have p8 := V8.out.cell
            have pf8 := V8.out.fr
            have x8 := (belc hb8.out hxl).trans x4
            have hbw8 : Below w.heap.size w w8 := hbw4.trans (hb8.out.mono hbw4.size)
            have HV9 := Lib.hid (Var.put (n' := n4) (c' := c4) V5.out hb8.out (HS5.out.up hb8.out) (fun ad h => by have := HLO.out ad h; omega))
            go_wp2
            go_roundg (gk - 1)
            case measure => omega
            case rel => exact ⟨k + 1, A4, n4, c4, by omega, by go_num, HV9, hbw8.setCell (p := ⟨w1.heap.size, 0, none⟩) (by show w.heap.size ≤ w1.heap.size; omega) _⟩
      · have hcases : (¬ k < kn) ∨ (k < kn ∧ ¬ k < vn) ∨ (k < kn ∧ k < vn ∧ ¬ k < 60) := by omega
        clear hlt
        rcases hcases with h1 | ⟨h1, h2⟩ | ⟨h1, h2, h3⟩
        all_goals
          go_wp2_with fail
          go_meet
          exact Lib.hid ⟨_, A, n, c, HG.out.1, hn60, hs.out, hb⟩
  case rest =>
    obtain ⟨ts, A, n, c, hg, hn60, hV, hb⟩ := hcut.out
    rename World => w2
    have HV2 := Lib.hid hV
    have p2 := hV.cell
    have hpl := hV.lt
    have hz2 := hb.size
    obtain ⟨a2, ha2⟩ : ∃ a2, a2 = at_.tmod 8 := ⟨_, rfl⟩
    obtain ⟨WT, hWT⟩ : ∃ WT, WT = w2.alloc (.cells #[.int .i64 at_, .int .i64 a2] 3) := ⟨_, rfl⟩
    have hbT : Below w2.heap.size w2 WT := by rw [hWT]; exact (Below.refl _ _).alloc (Nat.le_refl _) _
    have hT : w2.heap.size < WT.heap.size := by rw [hWT]; simp
    have HC0 := Lib.hid (show WT.cell? ⟨w2.heap.size, 0, none⟩ = some (.int .i64 at_) from by rw [hWT, cell_new _ _ _ _ _ rfl]; rfl)
    have HC1 := Lib.hid (show WT.cell? ⟨w2.heap.size, 1, none⟩ = some (.int .i64 a2) from by rw [hWT, cell_new _ _ _ _ _ rfl]; rfl)
    have HVT := Lib.hid (HV2.out.below hbT)
    have hbwT : Below w.heap.size w WT := hb.trans (hbT.mono hz2)
    clear hV p2 hbT
    go_wp2_with fail
    rw [← ha2, ← hWT]
    clear ha2 hWT
    go_loopw [74] (fun i wr => ∃ t : Nat, t ≤ 2 ∧ i = .int .i64 t ∧ Below WT.heap.size WT wr) (fun i _ => 2 - (intOf i).toNat)
    case atStart => exact ⟨0, by omega, rfl, Below.refl _ _⟩
    case round =>
      obtain ⟨t, ht2, rfl, hbt⟩ := hrel
      have VR := Lib.hid (HVT.out.below hbt)
      have pr := VR.out.cell
      have hplr := VR.out.lt
      have hbwr : Below w.heap.size w wr := hbwT.trans (hbt.mono hbwT.size)
      by_cases hlt : t < 2
      · obtain ⟨z, cz⟩ : ∃ z : Int, wr.cell? ⟨w2.heap.size, t, none⟩ = some (.int .i64 z) := by
          match t, hlt with
          | 0, _ => exact ⟨_, (belc hbt hT).trans HC0.out⟩
          | 1, _ => exact ⟨_, (belc hbt hT).trans HC1.out⟩
          | t + 2, h => exact absurd h (by omega)
        have hltI : (t : Int) < 2 := by omega
        go_wp2_with fail
        refine (guess_any A n c ts z wr VR.out.sl (by omega) hg.1).mono ?_
        rintro e x1 ⟨rfl, hx1⟩
        have V1 := Lib.hid (VR.out.below hx1)
        have p1 := V1.out.cell
        have hbx1 := hbt.trans (hx1.mono hbt.size)
        clear pr cz
        go_wp2_with fail
        refine (refguess_any A n c ts z x1 V1.out.sl (by omega)).mono ?_
        rintro e x2 ⟨rfl, hx2⟩
        have hbx2 := hbx1.trans (hx2.mono hbx1.size)
        obtain ⟨bb, hbb⟩ : ∃ bb, bb = hit ts z := ⟨_, rfl⟩
        rw [← hbb]
        clear hbb p1
        cases bb
        all_goals
          go_wp2
          go_roundw
          case rel => exact ⟨t + 1, by omega, by go_num, hbx2⟩
          case measure => simp [intOf]; omega
      · obtain rfl : t = 2 := by omega
        go_wp2
        go_ret
        exact ⟨rfl, hbwr⟩
end Go.Proofs.YtbmembmiejmoaaaDoor
