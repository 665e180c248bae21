/- The reference's Add. -/
import Derived.Test.YtignbncphdemlaaD
namespace Go.Proofs.Ytignbncphdemlaa
open Go.RowKit

theorem addS_hit {l : List Shr} {k : Int} {i : Nat} {x : Shr} (hx : l[i]? = some x) (hq : x.worker = k) (hno : ∀ (j : Nat) (y : Shr), j < i → l[j]? = some y → y.worker ≠ k) : addS l k = l.modify i (fun x => ⟨x.worker, x.steps + 1⟩) := by
  have h := IdxEq.idx_at (q := fun x => x.worker == k) hx (by simp [hq]) (fun j y hj hy => by have := hno j y hj hy; simp [this])
  rw [addS, h, if_pos (by omega)]
  simp
theorem addS_miss {l : List Shr} {k : Int} {i : Nat} (hi : i ≤ l.length) (hno : ∀ (j : Nat) (y : Shr), l[j]? = some y → y.worker ≠ k) (hlt : ∀ (j : Nat) (y : Shr), j < i → l[j]? = some y → y.worker < k) (hge : ∀ y, l[i]? = some y → ¬ y.worker < k) : addS l k = l.take i ++ ([⟨k, 1⟩] ++ l.drop i) := by
  have h := IdxEq.idx_no (q := fun x => x.worker == k) (l := l) (fun j y hy => by have := hno j y hy; simp [this])
  rw [addS, h, if_neg (by decide)]
  by_cases hil : i = l.length
  · subst hil
    have h2 := IdxGt.idx_no (q := fun x => decide (k < x.worker)) (l := l) (fun j y hy => by have := hlt j y (List.getElem?_eq_some_iff.1 hy).1 hy; simp; omega)
    rw [h2, if_pos (by decide)]
    simp
  · obtain ⟨y, hy⟩ : ∃ y, l[i]? = some y := ⟨_, List.getElem?_eq_getElem (by omega)⟩
    have h2 := IdxGt.idx_at (q := fun x => decide (k < x.worker)) hy (by have := hge y hy; have := hno i y hy; simp; omega) (fun j z hj hz => by have := hlt j z hj hz; simp; omega)
    rw [h2, if_neg (by omega)]
    simp

set_option maxHeartbeats 1000000 in
theorem refadd_any (A : Option Addr) (n c : Nat) (l : List Shr) (k : Int) (w : World) (hs : Sl w w.heap.size 2 Shr.cells A n l) (hn : n ≤ 1000) (hok : OkS l) (hnc : n ≤ c) (hA : A = none → c = 0) :
    Calls Try.prog 24 #[.slice A n c, .int .i64 k] w (GivesS (addS l k) w) := by
  obtain ⟨i0, hi, hz0, hz1, hz2⟩ := info_parts CloneShr.infoE
  have HL := Lib.hid hs.len
  have HOK := Lib.hid hok
  have HAC := Lib.hid hA
  have HSR := Lib.hid hs
  clear hok hA
  go_enter Try.func24, Try.ntmps24
  go_wp2_with fail
  go_loopw [5] (fun i wr => ∃ m : Nat, m ≤ n ∧ i = .int .i64 m ∧ Hid (∀ (j : Nat) (y : Shr), j < m → l[j]? = some y → y.worker ≠ k) ∧ Below w.heap.size w wr) (fun i _ => n - (intOf i).toNat)
  case atStart => exact ⟨0, Nat.zero_le _, rfl, Lib.hid (fun j y hj => absurd hj (by omega)), Below.refl _ _⟩
  case round =>
    obtain ⟨m, hm, rfl, hno, hb⟩ := hrel
    have hzz := hb.size
    by_cases hlt : m < n
    · obtain ⟨ab, ao, rfl, hlo, hat⟩ := hs.at_ (by omega)
      obtain ⟨x, hx⟩ : ∃ x, l[m]? = some x := ⟨_, List.getElem?_eq_getElem (by rw [HL.out]; exact hlt)⟩
      have c0 : wr.cell? ⟨ab, ao + m * 2, none⟩ = some (.int .i64 x.worker) := (belc hb hlo).trans (hat m x hx 0 _ rfl)
      obtain ⟨b0, b1⟩ := HOK.out m x hx
      have HX := Lib.hid hx
      clear hx hat
      by_cases he : x.worker = k
      · have hsW := HSR.out.below (hb.alloc hzz (.cells #[] 46))
        have hsrc := Sl.src hsW Shr.size
        have HS := Lib.hid hsrc
        clear hsrc hsW
        go_wp2_with (at_builtin; refine wpList_append_any rfl _ _ 31 rfl w.heap.size 46 i0 _ 2 16 Try.underlying31 hi hz0 hz1 hz2 rfl (by decide) (.slice (some ⟨wr.heap.size, 0, none⟩) 0 0) 0 [] rfl (World.ownsRow_made wr #[] 0 hzz (by unfold maxLen; omega) rfl) (some ⟨ab, ao, none⟩) n c (l.flatMap Shr.cells) rfl HS.out.1 (by rw [flat_len Shr.size, HL.out]) HS.out.2 (shr_one l) (by unfold maxLen; omega) (by omega) (by simp; omega) ?_; intro A1 c1 w1 hown hgr hA1; obtain ⟨g, hA, hg0, hg1, hfz, hs1⟩ := own_open hown Shr.size HL.out (by omega); subst hA; have c7 : w1.cell? ⟨g, m * 2 + 1, none⟩ = some (.int .i64 x.steps) := (by have := sl_at hs1 HX.out (j := 1) rfl; rwa [Nat.zero_add] at this); have f7 := hfz (m * 2 + 1); have HS1 := Lib.hid hs1; have HRM := Lib.hid (own_room hown); clear hs1 hfz hA1 hown)
        go_ret
        have HA := addS_hit HX.out he hno.out
        have hb1 : Below w.heap.size w w1 := (hb.alloc hzz _).grown hgr (by simp; omega) (fun j hj => by simp [Value.ownBlock] at hj; omega)
        have hln : n = (addS l k).length := by rw [HA, List.length_modify]; exact HL.out.symm
        refine ⟨some ⟨g, 0, none⟩, n, c1, by simp, hln, ?_, hb1.setCell (p := ⟨g, m * 2 + 1, none⟩) (by show _ ≤ g; omega) _, fun _ => by rintro ad ⟨⟩; show _ ≤ g; omega, by simpa using HRM.out⟩
        rw [HA]
        exact (Sl.mod1 Shr.size HS1.out HX.out (j := 1) (by omega) rfl _ (by simp)).mono (by simp)
      · go_wp2
        go_roundw
        case rel =>
          refine ⟨m + 1, by omega, by go_num, Lib.hid (fun j y hj hy => ?_), hb⟩
          by_cases hjm : j = m
          · subst hjm; rw [HX.out] at hy; injection hy with hy; subst hy; exact he
          · exact hno.out j y (by omega) hy
        case measure => simp [intOf]; omega
    · obtain rfl : m = n := by omega
      have HNO := Lib.hid (show ∀ (j : Nat) (y : Shr), l[j]? = some y → y.worker ≠ k from fun j y hy => hno.out j y (by have := (List.getElem?_eq_some_iff.1 hy).1; rw [HL.out] at this; exact this) hy)
      clear hno
      go_wp2_with fail
      go_loopw [7, 8] (fun o i wr => ∃ (j : Nat) (A2 : Option Addr) (c2 : Nat), j ≤ m ∧ i = .int .i64 j ∧ o = .slice A2 j c2 ∧ Hid (wr.ownsRow w.heap.size 46 2 (.slice A2 j c2) j ((l.take j).flatMap Shr.cells)) ∧ Hid (∀ (i : Nat) (y : Shr), i < j → l[i]? = some y → y.worker < k) ∧ Below w.heap.size w wr) (fun o i _ => m - (intOf i).toNat)
      case atStart => exact ⟨0, none, 0, Nat.zero_le _, rfl, rfl, Lib.hid (World.ownsRow_nil _ _ _ _), Lib.hid (fun j y hj => absurd hj (by omega)), hb⟩
      case round =>
        obtain ⟨j, A2, c2, hj, rfl, rfl, hown, hall, hb2⟩ := hrel
        have hz2' := hb2.size
        by_cases hlt2 : j < m
        · obtain ⟨ab, ao, rfl, hlo, hat⟩ := hs.at_ (by omega)
          obtain ⟨x, hx⟩ : ∃ x, l[j]? = some x := ⟨_, List.getElem?_eq_getElem (by rw [HL.out]; exact hlt2)⟩
          have c0 : wr.cell? ⟨ab, ao + j * 2, none⟩ = some (.int .i64 x.worker) := (belc hb2 hlo).trans (hat j x hx 0 _ rfl)
          have c1 : wr.cell? ⟨ab, ao + j * 2 + 1, none⟩ = some (.int .i64 x.steps) := (belc hb2 hlo).trans (hat j x hx 1 _ rfl)
          have HX := Lib.hid hx
          clear hx hat
          by_cases he : x.worker < k
          · have hownW := own_below hown.out ((by repeat (first | (with_reducible exact (Below.refl wr.heap.size wr)) | (with_reducible refine Below.drew ?_) | (with_reducible refine below_drewN ?_ _) | (with_reducible refine Below.setCell ?_ ?_ _; rotate_left; (first | omega | (simp <;> omega))) | (with_reducible refine Below.alloc ?_ ?_ _; rotate_left; (first | omega | (simp <;> omega))))) : Below wr.heap.size wr (wr.alloc (.cells #[.int .i64 x.worker, .int .i64 x.steps] 46)))
            have HO := Lib.hid hownW
            have HT := Lib.hid (show (l.take (j + 1)).flatMap Shr.cells = (l.take j).flatMap Shr.cells ++ Shr.cells x from by rw [List.take_add_one, HX.out]; simp)
            have HLT := Lib.hid (show ((l.take j).flatMap Shr.cells).length = j * 2 from by rw [flat_len Shr.size, List.length_take]; have := HL.out; omega)
            clear hownW
            go_wp2_with (at_builtin; refine wpList_append_any rfl _ _ 31 rfl w.heap.size 46 i0 _ 2 16 Try.underlying31 hi hz0 hz1 hz2 rfl (by decide) _ j ((l.take j).flatMap Shr.cells) rfl HO.out (some ⟨wr.heap.size, 0, none⟩) 1 1 (Shr.cells x) rfl (by intro h; cases h) rfl (fun ad h j' u hu => by injection h with h; subst h; rw [Addr.add_lit, cell_new _ _ _ _ _ rfl, Nat.zero_add, ← Array.getElem?_toList]; exact hu) (by simp [Shr.cells, Value.oneCell']) (by unfold maxLen; omega) (by omega) (by simp; omega) ?_; intro A3 c3 w3 hown3 hgr3 hA3; have H3 := Lib.hid hown3; have HG3 := Lib.hid hgr3; clear hown3 hgr3 hA3)
            go_roundw
            case rel =>
              refine ⟨j + 1, A3, c3, by omega, by go_num, rfl, Lib.hid (by rw [HT.out]; exact H3.out), Lib.hid (fun i y hi hy => ?_), (hb2.alloc hz2' _).grown HG3.out (by simp; omega) (fun g hg => (own_block_lt hown.out hg).1)⟩
              by_cases hij : i = j
              · subst hij; rw [HX.out] at hy; injection hy with hy; subst hy; exact he
              · exact hall.out i y (by omega) hy
            case measure => simp [intOf]; omega
          · have HGE := Lib.hid (show ∀ y, l[j]? = some y → ¬ y.worker < k from fun y hy => by rw [HX.out] at hy; injection hy with hy; subst hy; exact he)
            have HADD := Lib.hid (addS_miss (by have := HL.out; omega) HNO.out hall.out HGE.out)
            have hne : ¬ c = j := by omega
            have hsd : ∀ w', Below w.heap.size w w' → ∀ ad, some (⟨ab, ao + j * 2, none⟩ : Addr) = some ad → ∀ (j' : Nat) (u : Value), ((l.drop j).flatMap Shr.cells)[j']? = some u → w'.cell? (ad.add j') = some u := by
              intro w' hb' ad h j' u hu
              injection h with h
              subst h
              rw [← flat_drop Shr.size, List.getElem?_drop] at hu
              have := (Sl.src (HSR.out.below hb') Shr.size).2 _ rfl (j * 2 + j') u hu
              rw [Addr.add_lit] at this ⊢
              rwa [Nat.add_assoc]
            have HSD := Lib.hid hsd
            have SH1 := Lib.hid (shr_one (l.drop j))
            clear hsd
            have hownW := own_below hown.out ((by repeat (first | (with_reducible exact (Below.refl wr.heap.size wr)) | (with_reducible refine Below.drew ?_) | (with_reducible refine below_drewN ?_ _) | (with_reducible refine Below.setCell ?_ ?_ _; rotate_left; (first | omega | (simp <;> omega))) | (with_reducible refine Below.alloc ?_ ?_ _; rotate_left; (first | omega | (simp <;> omega))))) : Below wr.heap.size wr ((wr.alloc (.cells #[.int .i64 k, .int .i64 1] 46)).drew))
            have HO := Lib.hid hownW
            have hb3 : Below w.heap.size w ((wr.alloc (.cells #[.int .i64 k, .int .i64 1] 46)).drew) := (hb2.alloc hz2' _).drew
            have F1 := Lib.hid (show ∀ ad, some (⟨wr.heap.size, 0, none⟩ : Addr) = some ad → ∀ (j' : Nat) (u : Value), (Shr.cells ⟨k, 1⟩)[j']? = some u → ((wr.alloc (.cells #[.int .i64 k, .int .i64 1] 46)).drew).cell? (ad.add j') = some u from fun ad h j' u hu => by
              injection h with h
              subst h
              show (wr.alloc _).cell? _ = _
              rw [Addr.add_lit, cell_new _ _ _ _ _ rfl, Nat.zero_add, ← Array.getElem?_toList]; exact hu)
            have hzA : ((wr.alloc (.cells #[.int .i64 k, .int .i64 1] 46)).drew).heap.size = wr.heap.size + 1 := by show (wr.alloc _).heap.size = _; simp
            have HBS := Lib.hid (fun g (hg : (Value.slice A2 j c2).ownBlock = some g) => (own_block_lt hown.out hg).1)
            have HLT := Lib.hid (show ((l.take j).flatMap Shr.cells).length = j * 2 from by rw [flat_len Shr.size, List.length_take]; have := HL.out; omega)
            skip
            clear hownW
            go_wp2
            go_region_law (first
              | (refine step_append_any rfl (.tmp 56) (.tmp 59) 31 rfl w.heap.size 46 i0 _ 2 16 Try.underlying31 hi hz0 hz1 hz2 rfl (by decide) (.slice A2 j c2) j ((l.take j).flatMap Shr.cells) (by simp [Act.eval]) HO.out (some ⟨wr.heap.size, 0, none⟩) 1 1 (Shr.cells ⟨k, 1⟩) (by simp [Act.eval]) (by intro h; cases h) rfl F1.out (by simp [Shr.cells, Value.oneCell']) (by unfold maxLen; omega) (by omega) (by rw [hzA]; omega) ?_; intro A4 c4 w4 hown4 hgr4 hor4; have hb4 := hb3.grown hgr4 (by rw [hzA]; omega) HBS.out)
              | (refine step_append_any rfl (.tmp 60) (.tmp 63) 31 rfl w.heap.size 46 i0 _ 2 16 Try.underlying31 hi hz0 hz1 hz2 rfl (by decide) (.slice A4 (j + 1) c4) (j + 1) ((l.take j).flatMap Shr.cells ++ Shr.cells ⟨k, 1⟩) (by simp [Act.eval]) hown4 (some ⟨ab, ao + j * 2, none⟩) (m - j) (c - j) ((l.drop j).flatMap Shr.cells) (by simp [Act.eval]) (by intro h; cases h) (by rw [flat_len Shr.size, List.length_drop, HL.out]) (HSD.out _ hb4) (by intro u hu; exact SH1.out u hu) (by unfold maxLen; omega) (by omega) (by have := hb4.size; omega) ?_; intro A5 c5 w5 hown5 hgr5 hor5; have hb5 := hb4.grown hgr5 (by have := hb4.size; omega) (fun g hg => (own_block_lt hown4 hg).1)))
            go_wp2
            go_ret
            have hln : j + 1 + (m - j) = (addS l k).length := by rw [HADD.out]; have := HL.out; simp <;> omega
            refine ⟨A5, j + 1 + (m - j), c5, rfl, hln, ?_, hb5, fun _ => by rintro ad rfl; exact own_lo hown5 (by omega) _ rfl, own_room hown5⟩
            have h5 : w5.ownsRow w.heap.size 46 2 (.slice A5 (j + 1 + (m - j)) c5) (j + 1 + (m - j)) ((addS l k).flatMap Shr.cells) := by rw [HADD.out]; simpa using hown5
            exact Sl.of_own Shr.size hln.symm h5
        · obtain rfl : j = m := by omega
          have HGE := Lib.hid (show ∀ y, l[j]? = some y → ¬ y.worker < k from fun y hy => by have := (List.getElem?_eq_some_iff.1 hy).1; rw [HL.out] at this; omega)
          have HADD := Lib.hid (addS_miss (by have := HL.out; omega) HNO.out hall.out HGE.out)
          have SH1 := Lib.hid (show ∀ u ∈ ([] : List Value), u.oneCell' = true from by simp)
          have hdr : l.drop j = [] := List.drop_eq_nil_of_le (by rw [HL.out]; omega)
          rw [hdr] at HADD
          cases A with
          | none =>
            obtain rfl := HAC.out rfl
            obtain rfl : j = 0 := by omega
            have hownW := own_below hown.out ((by repeat (first | (with_reducible exact (Below.refl wr.heap.size wr)) | (with_reducible refine Below.drew ?_) | (with_reducible refine below_drewN ?_ _) | (with_reducible refine Below.setCell ?_ ?_ _; rotate_left; (first | omega | (simp <;> omega))) | (with_reducible refine Below.alloc ?_ ?_ _; rotate_left; (first | omega | (simp <;> omega))))) : Below wr.heap.size wr ((wr.alloc (.cells #[.int .i64 k, .int .i64 1] 46)).drew))
            have HO := Lib.hid hownW
            have hb3 : Below w.heap.size w ((wr.alloc (.cells #[.int .i64 k, .int .i64 1] 46)).drew) := (hb2.alloc hz2' _).drew
            have F1 := Lib.hid (show ∀ ad, some (⟨wr.heap.size, 0, none⟩ : Addr) = some ad → ∀ (j' : Nat) (u : Value), (Shr.cells ⟨k, 1⟩)[j']? = some u → ((wr.alloc (.cells #[.int .i64 k, .int .i64 1] 46)).drew).cell? (ad.add j') = some u from fun ad h j' u hu => by
              injection h with h
              subst h
              show (wr.alloc _).cell? _ = _
              rw [Addr.add_lit, cell_new _ _ _ _ _ rfl, Nat.zero_add, ← Array.getElem?_toList]; exact hu)
            have hzA : ((wr.alloc (.cells #[.int .i64 k, .int .i64 1] 46)).drew).heap.size = wr.heap.size + 1 := by show (wr.alloc _).heap.size = _; simp
            have HBS := Lib.hid (fun g (hg : (Value.slice A2 0 c2).ownBlock = some g) => (own_block_lt hown.out hg).1)
            have HLT := Lib.hid (show ((l.take 0).flatMap Shr.cells).length = 0 * 2 from by rw [flat_len Shr.size, List.length_take]; have := HL.out; omega)
            clear hownW
            go_wp2
            go_region_law (first
              | (refine step_append_any rfl (.tmp 56) (.tmp 59) 31 rfl w.heap.size 46 i0 _ 2 16 Try.underlying31 hi hz0 hz1 hz2 rfl (by decide) (.slice A2 0 c2) 0 ((l.take 0).flatMap Shr.cells) (by simp [Act.eval]) HO.out (some ⟨wr.heap.size, 0, none⟩) 1 1 (Shr.cells ⟨k, 1⟩) (by simp [Act.eval]) (by intro h; cases h) rfl F1.out (by simp [Shr.cells, Value.oneCell']) (by unfold maxLen; omega) (by omega) (by rw [hzA]; omega) ?_; intro A4 c4 w4 hown4 hgr4 hor4; have hb4 := hb3.grown hgr4 (by rw [hzA]; omega) HBS.out)
              | (refine step_append_any rfl (.tmp 60) (.tmp 63) 31 rfl w.heap.size 46 i0 _ 2 16 Try.underlying31 hi hz0 hz1 hz2 rfl (by decide) (.slice A4 (0 + 1) c4) (0 + 1) ((l.take 0).flatMap Shr.cells ++ Shr.cells ⟨k, 1⟩) (by simp [Act.eval]) hown4 (none) (0) (0) ([]) (by simp [Act.eval]) (fun _ => rfl) (rfl) (fun ad h => by cases h) (by intro u hu; exact SH1.out u hu) (by unfold maxLen; omega) (by omega) (by have := hb4.size; omega) ?_; intro A5 c5 w5 hown5 hgr5 hor5; have hb5 := hb4.grown hgr5 (by have := hb4.size; omega) (fun g hg => (own_block_lt hown4 hg).1)))
            go_wp2
            go_ret
            have hln : 0 + 1 + (0) = (addS l k).length := by rw [HADD.out]; have := HL.out; simp <;> omega
            refine ⟨A5, 0 + 1 + (0), c5, rfl, hln, ?_, hb5, fun _ => by rintro ad rfl; exact own_lo hown5 (by omega) _ rfl, own_room hown5⟩
            have h5 : w5.ownsRow w.heap.size 46 2 (.slice A5 (0 + 1 + (0)) c5) (0 + 1 + (0)) ((addS l k).flatMap Shr.cells) := by rw [HADD.out]; simpa using hown5
            exact Sl.of_own Shr.size hln.symm h5
          | some ad =>
            obtain ⟨ab, ao, pa, rfl⟩ : ∃ ab ao pa, ad = ⟨ab, ao, pa⟩ := ⟨_, _, _, rfl⟩
            by_cases hcj : c = j
            · subst hcj
              have hownW := own_below hown.out ((by repeat (first | (with_reducible exact (Below.refl wr.heap.size wr)) | (with_reducible refine Below.drew ?_) | (with_reducible refine below_drewN ?_ _) | (with_reducible refine Below.setCell ?_ ?_ _; rotate_left; (first | omega | (simp <;> omega))) | (with_reducible refine Below.alloc ?_ ?_ _; rotate_left; (first | omega | (simp <;> omega))))) : Below wr.heap.size wr ((wr.alloc (.cells #[.int .i64 k, .int .i64 1] 46)).drew))
              have HO := Lib.hid hownW
              have hb3 : Below w.heap.size w ((wr.alloc (.cells #[.int .i64 k, .int .i64 1] 46)).drew) := (hb2.alloc hz2' _).drew
              have F1 := Lib.hid (show ∀ ad, some (⟨wr.heap.size, 0, none⟩ : Addr) = some ad → ∀ (j' : Nat) (u : Value), (Shr.cells ⟨k, 1⟩)[j']? = some u → ((wr.alloc (.cells #[.int .i64 k, .int .i64 1] 46)).drew).cell? (ad.add j') = some u from fun ad h j' u hu => by
                injection h with h
                subst h
                show (wr.alloc _).cell? _ = _
                rw [Addr.add_lit, cell_new _ _ _ _ _ rfl, Nat.zero_add, ← Array.getElem?_toList]; exact hu)
              have hzA : ((wr.alloc (.cells #[.int .i64 k, .int .i64 1] 46)).drew).heap.size = wr.heap.size + 1 := by show (wr.alloc _).heap.size = _; simp
              have HBS := Lib.hid (fun g (hg : (Value.slice A2 c c2).ownBlock = some g) => (own_block_lt hown.out hg).1)
              have HLT := Lib.hid (show ((l.take c).flatMap Shr.cells).length = c * 2 from by rw [flat_len Shr.size, List.length_take]; have := HL.out; omega)
              clear hownW
              go_wp2
              go_region_law (first
                | (refine step_append_any rfl (.tmp 56) (.tmp 59) 31 rfl w.heap.size 46 i0 _ 2 16 Try.underlying31 hi hz0 hz1 hz2 rfl (by decide) (.slice A2 c c2) c ((l.take c).flatMap Shr.cells) (by simp [Act.eval]) HO.out (some ⟨wr.heap.size, 0, none⟩) 1 1 (Shr.cells ⟨k, 1⟩) (by simp [Act.eval]) (by intro h; cases h) rfl F1.out (by simp [Shr.cells, Value.oneCell']) (by unfold maxLen; omega) (by omega) (by rw [hzA]; omega) ?_; intro A4 c4 w4 hown4 hgr4 hor4; have hb4 := hb3.grown hgr4 (by rw [hzA]; omega) HBS.out)
                | (refine step_append_any rfl (.tmp 60) (.tmp 63) 31 rfl w.heap.size 46 i0 _ 2 16 Try.underlying31 hi hz0 hz1 hz2 rfl (by decide) (.slice A4 (c + 1) c4) (c + 1) ((l.take c).flatMap Shr.cells ++ Shr.cells ⟨k, 1⟩) (by simp [Act.eval]) hown4 (some ⟨ab, ao, pa⟩) (0) (0) ([]) (by simp [Act.eval]) (fun _ => rfl) (rfl) (fun ad h j' u hu => by simp at hu) (by intro u hu; exact SH1.out u hu) (by unfold maxLen; omega) (by omega) (by have := hb4.size; omega) ?_; intro A5 c5 w5 hown5 hgr5 hor5; have hb5 := hb4.grown hgr5 (by have := hb4.size; omega) (fun g hg => (own_block_lt hown4 hg).1)))
              go_wp2
              go_ret
              have hln : c + 1 + (0) = (addS l k).length := by rw [HADD.out]; have := HL.out; simp <;> omega
              refine ⟨A5, c + 1 + (0), c5, rfl, hln, ?_, hb5, fun _ => by rintro ad rfl; exact own_lo hown5 (by omega) _ rfl, own_room hown5⟩
              have h5 : w5.ownsRow w.heap.size 46 2 (.slice A5 (c + 1 + (0)) c5) (c + 1 + (0)) ((addS l k).flatMap Shr.cells) := by rw [HADD.out]; simpa using hown5
              exact Sl.of_own Shr.size hln.symm h5
            · have hcj2 : ¬ c ≤ j := by omega
              have hownW := own_below hown.out ((by repeat (first | (with_reducible exact (Below.refl wr.heap.size wr)) | (with_reducible refine Below.drew ?_) | (with_reducible refine below_drewN ?_ _) | (with_reducible refine Below.setCell ?_ ?_ _; rotate_left; (first | omega | (simp <;> omega))) | (with_reducible refine Below.alloc ?_ ?_ _; rotate_left; (first | omega | (simp <;> omega))))) : Below wr.heap.size wr ((wr.alloc (.cells #[.int .i64 k, .int .i64 1] 46)).drew))
              have HO := Lib.hid hownW
              have hb3 : Below w.heap.size w ((wr.alloc (.cells #[.int .i64 k, .int .i64 1] 46)).drew) := (hb2.alloc hz2' _).drew
              have F1 := Lib.hid (show ∀ ad, some (⟨wr.heap.size, 0, none⟩ : Addr) = some ad → ∀ (j' : Nat) (u : Value), (Shr.cells ⟨k, 1⟩)[j']? = some u → ((wr.alloc (.cells #[.int .i64 k, .int .i64 1] 46)).drew).cell? (ad.add j') = some u from fun ad h j' u hu => by
                injection h with h
                subst h
                show (wr.alloc _).cell? _ = _
                rw [Addr.add_lit, cell_new _ _ _ _ _ rfl, Nat.zero_add, ← Array.getElem?_toList]; exact hu)
              have hzA : ((wr.alloc (.cells #[.int .i64 k, .int .i64 1] 46)).drew).heap.size = wr.heap.size + 1 := by show (wr.alloc _).heap.size = _; simp
              have HBS := Lib.hid (fun g (hg : (Value.slice A2 j c2).ownBlock = some g) => (own_block_lt hown.out hg).1)
              have HLT := Lib.hid (show ((l.take j).flatMap Shr.cells).length = j * 2 from by rw [flat_len Shr.size, List.length_take]; have := HL.out; omega)
              clear hownW
              go_wp2
              go_region_law (first
                | (refine step_append_any rfl (.tmp 56) (.tmp 59) 31 rfl w.heap.size 46 i0 _ 2 16 Try.underlying31 hi hz0 hz1 hz2 rfl (by decide) (.slice A2 j c2) j ((l.take j).flatMap Shr.cells) (by simp [Act.eval]) HO.out (some ⟨wr.heap.size, 0, none⟩) 1 1 (Shr.cells ⟨k, 1⟩) (by simp [Act.eval]) (by intro h; cases h) rfl F1.out (by simp [Shr.cells, Value.oneCell']) (by unfold maxLen; omega) (by omega) (by rw [hzA]; omega) ?_; intro A4 c4 w4 hown4 hgr4 hor4; have hb4 := hb3.grown hgr4 (by rw [hzA]; omega) HBS.out)
                | (refine step_append_any rfl (.tmp 60) (.tmp 63) 31 rfl w.heap.size 46 i0 _ 2 16 Try.underlying31 hi hz0 hz1 hz2 rfl (by decide) (.slice A4 (j + 1) c4) (j + 1) ((l.take j).flatMap Shr.cells ++ Shr.cells ⟨k, 1⟩) (by simp [Act.eval]) hown4 (some ((⟨ab, ao, pa⟩ : Addr).add (j * 2))) (0) (c - j) ([]) (by simp [Act.eval]) (fun _ => rfl) (rfl) (fun ad h j' u hu => by simp at hu) (by intro u hu; exact SH1.out u hu) (by unfold maxLen; omega) (by omega) (by have := hb4.size; omega) ?_; intro A5 c5 w5 hown5 hgr5 hor5; have hb5 := hb4.grown hgr5 (by have := hb4.size; omega) (fun g hg => (own_block_lt hown4 hg).1)))
              go_wp2
              go_ret
              have hln : j + 1 + (0) = (addS l k).length := by rw [HADD.out]; have := HL.out; simp <;> omega
              refine ⟨A5, j + 1 + (0), c5, rfl, hln, ?_, hb5, fun _ => by rintro ad rfl; exact own_lo hown5 (by omega) _ rfl, own_room hown5⟩
              have h5 : w5.ownsRow w.heap.size 46 2 (.slice A5 (j + 1 + (0)) c5) (j + 1 + (0)) ((addS l k).flatMap Shr.cells) := by rw [HADD.out]; simpa using hown5
              exact Sl.of_own Shr.size hln.symm h5
end Go.Proofs.Ytignbncphdemlaa
