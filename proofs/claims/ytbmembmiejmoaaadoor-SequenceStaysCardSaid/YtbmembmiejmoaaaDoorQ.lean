/- SequenceStays, walked. -/
import Derived.Test.YtbmembmiejmoaaaDoorO
import Derived.Deep.CutBlock
import Derived.Deep.DeepCutAuto
namespace Go.Proofs.YtbmembmiejmoaaaDoor
open Go.RowKit

set_option maxRecDepth 100000 in
set_option maxHeartbeats 8000000 in
theorem stays_any (KA : Option Addr) (kn kc : Nat) (VA : Option Addr) (vn vc : Nat) (ks vs : List Int) (a b m : Int) (w : World) (ht : Tab w)
    (hk : Sl w w.heap.size 1 i8Cells KA kn ks) (hv : Sl w w.heap.size 1 i8Cells VA vn vs) (hkn : kn ≤ 9223372036854775807) (hvn : vn ≤ 9223372036854775807) (hks : ∀ (i : Nat) (k : Int), ks[i]? = some k → -128 ≤ k ∧ k ≤ 127) (hvs : ∀ (i : Nat) (k : Int), vs[i]? = some k → -128 ≤ k ∧ k ≤ 127)
    (ha : -128 ≤ a ∧ a ≤ 127) (hb : -128 ≤ b ∧ b ≤ 127) (hm : 0 ≤ m ∧ m ≤ 255) :
    Calls Tryd.prog 5 #[.slice KA kn kc, .slice VA vn vc, .int .i8 a, .int .i8 b, .int .u8 m] w fun e w' => e = .returned (.bool true) ∧ Below w.heap.size w w' := by
  obtain ⟨ha0, ha1⟩ := ha
  obtain ⟨hb0, hb1'⟩ := hb
  obtain ⟨hm0, hm1⟩ := hm
  have HK := Lib.hid hk.len
  have HV := Lib.hid hv.len
  have HKS := Lib.hid hks
  have HVS := Lib.hid hvs
  clear hks hvs
  go_enter Tryd.func5, Tryd.ntmps5
  go_wp2_with fail
  refine (sane_any w ht).mono ?_
  rintro e w1 ⟨rfl, hb1⟩
  have hz1 := hb1.size
  go_upto_block 0 with fail
  go_cut [] (fun wx => Hid (∃ ts A n c, Good ts ∧ ts.length ≤ 30 ∧ Var wx w1.heap.size A n c ts ∧ Below w.heap.size w wx))
  case first =>
    go_wp2_with fail
    go_loopg [12] 30 (fun gk i wr => ∃ (k : Nat) (A : Option Addr) (n c : Nat) (ts : List Trk), k + gk = 30 ∧ i = .int .i64 k ∧ Hid (Good ts ∧ ts.length ≤ k) ∧ Hid (Var wr w1.heap.size A n c ts) ∧ Below w.heap.size w wr)
    case atStart => exact ⟨0, none, 0, 0, [], by omega, rfl, Lib.hid ⟨good_nil, by simp⟩, Lib.hid (Var.new w1), hb1.alloc hz1 _⟩
    case round =>
      obtain ⟨k, A, n, c, ts, hk30, rfl, HG, hs, hb⟩ := hrel
      have hn30 : n ≤ 30 := by rw [← hs.out.sl.len]; have := HG.out.2; omega
      have hp := hs.out.cell
      have hz := hs.out.lt
      by_cases hlt : k < kn ∧ k < vn ∧ k < 30
      · obtain ⟨h1, h2, h3⟩ := hlt
        obtain ⟨kb, ko, rfl, hkb, hkat⟩ := hk.at_ (by omega)
        obtain ⟨vb, vo, rfl, hvb, hvat⟩ := hv.at_ (by omega)
        obtain ⟨q, hq⟩ : ∃ q, ks[k]? = some q := ⟨_, List.getElem?_eq_getElem (by rw [HK.out]; exact h1)⟩
        obtain ⟨x, hx⟩ : ∃ x, vs[k]? = some x := ⟨_, List.getElem?_eq_getElem (by rw [HV.out]; exact h2)⟩
        have c0 : wr.cell? ⟨kb, ko + k, none⟩ = some (.int .i8 q) := by have h := (belc hb hkb).trans (hkat k q hq 0 _ rfl); rwa [Nat.mul_one, Nat.add_zero] at h
        have d0 : wr.cell? ⟨vb, vo + k, none⟩ = some (.int .i8 x) := by have h := (belc hb hvb).trans (hvat k x hx 0 _ rfl); rwa [Nat.mul_one, Nat.add_zero] at h
        obtain ⟨hq0, hq1⟩ := HKS.out k q hq
        obtain ⟨hx0, hx1⟩ := HVS.out k x hx
        clear hq hx hkat hvat
        go_wp2
        go_still_tail 11, (by kernel_rfl)
        change wpList _ _ _ _ _ wr.drew
        go_wp2_with fail
        have hsd : Sl wr.drew wr.drew.heap.size 3 Trk.cells A n ts := hs.out.sl.below (Below.drew (Below.refl _ _))
        refine (train_any A n c ts q x wr.drew hsd (by omega) HG.out.1).mono ?_
        rintro e w2 ⟨A2, n2, c2, rfl, hs2, hb2, hlo2⟩
        have hb2 : Below wr.heap.size wr w2 := (Below.drew (Below.refl _ _)).trans hb2
        have HP := Lib.hid (Var.put (n' := n2) (c' := c2) hs.out hb2 hs2 (fun ad h => by have := hlo2 ad h; have h' : wr.heap.size ≤ ad.block := this; omega))
        have p2 := (hs.out.below hb2).cell
        have p2f := (hs.out.below hb2).fr
        have hbw2 : Below w.heap.size w w2 := hb.trans (hb2.mono hb.size)
        have HG2 := Lib.hid (show Good (train ts q x) ∧ (train ts q x).length ≤ k + 1 from ⟨train_good HG.out.1 _ _, by have := train_len ts q x; have := HG.out.2; omega⟩)
        clear hs2 hlo2 hs hp
        go_wp2
        go_roundg (gk - 1)
        case measure => omega
        case rel => exact ⟨k + 1, A2, n2, c2, _, by omega, by go_num, HG2, HP, hbw2.setCell (p := ⟨w1.heap.size, 0, none⟩) (by show w.heap.size ≤ w1.heap.size; omega) _⟩
      · have hcases : (¬ k < kn) ∨ (k < kn ∧ ¬ k < vn) ∨ (k < kn ∧ k < vn ∧ ¬ k < 30) := by omega
        clear hlt
        rcases hcases with h1 | ⟨h1, h2⟩ | ⟨h1, h2, h3⟩
        all_goals
          go_wp2_with fail
          go_meet
          exact Lib.hid ⟨_, A, n, c, HG.out.1, by have := HG.out.2; omega, hs.out, hb⟩
  case rest =>
    obtain ⟨ts0, A0, n0, c0, hg0, hn0, hV0, hb2⟩ := hcut.out
    rename World => w2
    have HV0 := Lib.hid hV0
    have HG0 := Lib.hid hg0
    clear hV0 hg0 hcut
    by_cases hab : a = b
    · subst hab
      go_wp2
      go_ret
      exact ⟨rfl, hb2⟩
    have hab' : (a == b) = false := by simpa using hab
    have HAB := Lib.hid hab
    clear hab
    go_upto_block 2 with fail
    go_cut [] (fun wx => Hid (∃ ts A n c, Good ts ∧ ts.length ≤ 40 ∧ 5 ≤ lev ts 500 a ∧ Var wx w1.heap.size A n c ts ∧ Below w.heap.size w wx))
    case first =>
      go_wp2_with fail
      go_loopw [13] (fun i wr => ∃ (k : Nat) (A : Option Addr) (n c : Nat) (ts : List Trk), k ≤ 6 ∧ i = .int .i64 k ∧ Hid (Good ts ∧ ts.length ≤ 30 + k ∧ (k : Int) - 1 ≤ lev ts 500 a ∧ ∀ j : Int, 0 ≤ j → j ≤ 5 → j ≤ k → j ≤ lev ts 500 a) ∧ Hid (Var wr w1.heap.size A n c ts) ∧ Below w.heap.size w wr) (fun i _ => 6 - (intOf i).toNat)
      case atStart => exact ⟨0, A0, n0, c0, ts0, by omega, rfl, Lib.hid ⟨HG0.out, by omega, by have := lev_nn HG0.out 500 a; omega, fun j h1 h2 h3 => by have := lev_nn HG0.out 500 a; omega⟩, HV0, hb2⟩
      case round =>
        obtain ⟨k, A, n, c, ts, hk6, rfl, HG, hs, hb⟩ := hrel
        have hn40 : n ≤ 40 := by rw [← hs.out.sl.len]; have := HG.out.2; omega
        have hp := hs.out.cell
        have hz := hs.out.lt
        by_cases hlt : k < 6
        · go_wp2_with fail
          refine (train_any A n c ts 500 a wr hs.out.sl (by omega) HG.out.1).mono ?_
          rintro e w3 ⟨A2, n2, c2, rfl, hs2, hb3, hlo2⟩
          have HP := Lib.hid (Var.put (n' := n2) (c' := c2) hs.out hb3 hs2 (fun ad h => by have := hlo2 ad h; omega))
          have p2 := (hs.out.below hb3).cell
          have p2f := (hs.out.below hb3).fr
          have hbw3 : Below w.heap.size w w3 := hb.trans (hb3.mono hb.size)
          have HG2 : Hid (Good (train ts 500 a) ∧ (train ts 500 a).length ≤ 30 + (k + 1) ∧ ((k + 1 : Nat) : Int) - 1 ≤ lev (train ts 500 a) 500 a ∧ ∀ j : Int, 0 ≤ j → j ≤ 5 → j ≤ ((k + 1 : Nat) : Int) → j ≤ lev (train ts 500 a) 500 a) := by
            have hup : ∀ j : Int, 0 ≤ j → j ≤ 5 → j ≤ ((k + 1 : Nat) : Int) → j ≤ lev (train ts 500 a) 500 a := fun j h1 h2 h3 => by
              by_cases hj : j = 0
              · have := lev_nn (train_good HG.out.1 500 a) 500 a; omega
              · have := lev_up HG.out.1 500 a (j - 1) (HG.out.2.2.2 (j - 1) (by omega) (by omega) (by omega)) (by omega); omega
            exact ⟨train_good HG.out.1 _ _, by have := train_len ts 500 a; have := HG.out.2.1; omega, hup _ (by omega) (by omega) (by omega), hup⟩
          clear hs2 hlo2 hs hp
          go_wp2
          go_roundw
          case rel => exact ⟨k + 1, A2, n2, c2, _, by omega, by go_num, HG2, HP, hbw3.setCell (p := ⟨w1.heap.size, 0, none⟩) (by show w.heap.size ≤ w1.heap.size; omega) _⟩
          case measure => simp [intOf]; omega
        · obtain rfl : k = 6 := by omega
          go_wp2_with fail
          go_meet
          exact Lib.hid ⟨_, A, n, c, HG.out.1, by have := HG.out.2; omega, by have := HG.out.2.2.1; omega, hs.out, hb⟩
    case rest =>
      obtain ⟨ts3, A3, n3, c3, hg3, hn3, hl3, hV3, hb3⟩ := hcut.out
      rename World => w3
      have HV3 := Lib.hid hV3
      have p3 := hV3.cell
      have hz3 := hV3.lt
      have hn3' : n3 ≤ 40 := by rw [← hV3.sl.len]; exact hn3
      have HG3 := Lib.hid hg3
      have HF := Lib.hid (lev_firm hg3 HAB.out hl3)
      clear hV3 hg3 hcut hl3
      go_wp2_with fail
      refine (train_any A3 n3 c3 ts3 500 b w3 HV3.out.sl (by omega) HG3.out).mono ?_
      rintro e w4 ⟨A4, n4, c4, rfl, hs4, hb4, hlo4⟩
      have HV4 := Lib.hid (Var.put (n' := n4) (c' := c4) HV3.out hb4 hs4 (fun ad h => by have := hlo4 ad h; omega))
      have p4 := (HV3.out.below hb4).cell
      have p4f := (HV3.out.below hb4).fr
      have hbw4 : Below w.heap.size w w4 := hb3.trans (hb4.mono hb3.size)
      have hn4 : n4 ≤ 41 := by rw [← hs4.len]; have := train_len ts3 500 b; omega
      have hg4 := train_good HG3.out 500 b
      have HG4 := Lib.hid hg4
      clear hs4 hlo4 p3 hg4
      obtain ⟨W5, hW5⟩ : ∃ W, W = w4.setCell ⟨w1.heap.size, 0, none⟩ (.slice A4 n4 c4) := ⟨_, rfl⟩
      have HV5 : Hid (Var W5 w1.heap.size A4 n4 c4 (train ts3 500 b)) := by rw [hW5]; exact HV4.out
      have hbw5 : Below w.heap.size w W5 := by rw [hW5]; exact hbw4.setCell (p := ⟨w1.heap.size, 0, none⟩) (by show w.heap.size ≤ w1.heap.size; omega) _
      clear HV4
      go_wp2_with fail
      rw [← hW5]
      clear hW5 p4 p4f
      refine (guess_any A4 n4 c4 _ 500 W5 HV5.out.sl (by omega) HG4.out.1).mono ?_
      rintro e w6 ⟨rfl, hb6⟩
      have HV6 := Lib.hid (HV5.out.below hb6)
      have hbw6 : Below w.heap.size w w6 := hbw5.trans (hb6.mono hbw5.size)
      rw [HF.out.1, HF.out.2.1]
      obtain ⟨r, hr⟩ : ∃ r : Nat, (r : Int) = 3 + m % 5 := ⟨(3 + m % 5).toNat, by omega⟩
      have hr3 : 3 ≤ r ∧ r ≤ 7 := by omega
      obtain ⟨hr3, hr7⟩ := hr3
      have HR := Lib.hid hr
      clear hr
      go_upto_block 4 with fail
      go_cut [] (fun wx => Hid (∃ ts A n c, Good ts ∧ ts.length ≤ 60 ∧ 3 ≤ lev ts 500 b ∧ Var wx w1.heap.size A n c ts ∧ Below w.heap.size w wx))
      case first =>
        go_wp2_with fail
        go_loopw [16] (fun i wr => ∃ (k : Nat) (A : Option Addr) (n c : Nat) (ts : List Trk), k ≤ r ∧ i = .int .i64 k ∧ Hid (Good ts ∧ ts.length ≤ 41 + k ∧ ∀ j : Int, 0 ≤ j → j ≤ 5 → j ≤ (k : Int) + 1 → j ≤ lev ts 500 b) ∧ Hid (Var wr w1.heap.size A n c ts) ∧ Below w.heap.size w wr) (fun i _ => r - (intOf i).toNat)
        case atStart => exact ⟨0, A4, n4, c4, _, by omega, rfl, Lib.hid ⟨HG4.out, by have := HV6.out.sl.len; omega, fun j h1 h2 h3 => by have := HF.out.2.2; omega⟩, HV6, hbw6⟩
        case round =>
          obtain ⟨k, A, n, c, ts, hkr, rfl, HG, hs, hb⟩ := hrel
          have hn60 : n ≤ 60 := by rw [← hs.out.sl.len]; have := HG.out.2; omega
          have hp := hs.out.cell
          have hz := hs.out.lt
          by_cases hlt : k < r
          · have hltI : (k : Int) < 3 + m % 5 := by have := HR.out; omega
            go_wp2_with fail
            refine (train_any A n c ts 500 b wr hs.out.sl (by omega) HG.out.1).mono ?_
            rintro e w7 ⟨A2, n2, c2, rfl, hs2, hb7, hlo2⟩
            have HP := Lib.hid (Var.put (n' := n2) (c' := c2) hs.out hb7 hs2 (fun ad h => by have := hlo2 ad h; omega))
            have p2 := (hs.out.below hb7).cell
            have p2f := (hs.out.below hb7).fr
            have hbw7 : Below w.heap.size w w7 := hb.trans (hb7.mono hb.size)
            have HG2 : Hid (Good (train ts 500 b) ∧ (train ts 500 b).length ≤ 41 + (k + 1) ∧ ∀ j : Int, 0 ≤ j → j ≤ 5 → j ≤ ((k + 1 : Nat) : Int) + 1 → j ≤ lev (train ts 500 b) 500 b) := by
              have hup : ∀ j : Int, 0 ≤ j → j ≤ 5 → j ≤ ((k + 1 : Nat) : Int) + 1 → j ≤ lev (train ts 500 b) 500 b := fun j h1 h2 h3 => by
                by_cases hj : j = 0
                · have := lev_nn (train_good HG.out.1 500 b) 500 b; omega
                · have := lev_up HG.out.1 500 b (j - 1) (HG.out.2.2 (j - 1) (by omega) (by omega) (by omega)) (by omega); omega
              exact ⟨train_good HG.out.1 _ _, by have := train_len ts 500 b; have := HG.out.2.1; omega, hup⟩
            clear hs2 hlo2 hs hp
            go_wp2
            go_roundw
            case rel => exact ⟨k + 1, A2, n2, c2, _, by omega, by go_num, HG2, HP, hbw7.setCell (p := ⟨w1.heap.size, 0, none⟩) (by show w.heap.size ≤ w1.heap.size; omega) _⟩
            case measure => simp [intOf]; omega
          · obtain rfl : k = r := by omega
            have hltI : ¬ (k : Int) < 3 + m % 5 := by have := HR.out; omega
            go_wp2_with fail
            go_meet
            exact Lib.hid ⟨_, A, n, c, HG.out.1, by have := HG.out.2; omega, HG.out.2.2 3 (by omega) (by omega) (by omega), hs.out, hb⟩
      case rest =>
        obtain ⟨ts8, A8, n8, c8, hg8, hn8, hl8, hV8, hb8⟩ := hcut.out
        rename World => w8
        have p8 := hV8.cell
        have hn8' : n8 ≤ 60 := by rw [← hV8.sl.len]; exact hn8
        have HL8 := Lib.hid (lev_guess hg8 hl8)
        have HS8 := Lib.hid hV8.sl
        have HG8 := Lib.hid hg8
        clear hcut hl8 hV8 hg8
        go_wp2_with fail
        refine (guess_any A8 n8 c8 ts8 500 w8 HS8.out (by omega) HG8.out.1).mono ?_
        rintro e w9 ⟨rfl, hb9⟩
        have hbw9 : Below w.heap.size w w9 := hb8.trans (hb9.mono hb8.size)
        rw [HL8.out.1, HL8.out.2]
        go_wp2
        go_ret
        exact ⟨by simp, hbw9⟩
end Go.Proofs.YtbmembmiejmoaaaDoor
