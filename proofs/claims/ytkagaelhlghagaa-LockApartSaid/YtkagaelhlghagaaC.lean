/- The reference: who holds a lock, and how it changes hands. -/
import Derived.Test.YtkagaelhlghagaaB
namespace Go.Proofs.Ytkagaelhlghagaa
open Go.RowKit
theorem own_eq {w : World} {base : Nat} {e : TypeId} {size a b c : Nat} {A : Option Addr} {xs : List Value} (h : a = b) (ho : w.ownsRow base e size (.slice A a c) a xs) : w.ownsRow base e size (.slice A b c) b xs := by subst h; exact ho
theorem there_yes {m : Int} {l : List Lk} {j : Nat} {x : Lk} (hp : pos m l = j) (hx : l[j]? = some x) (h : x.number = m) : thereB m l = true := by simp [thereB, hp, hx, h]
theorem there_no {m : Int} {l : List Lk} {j : Nat} {x : Lk} (hp : pos m l = j) (hx : l[j]? = some x) (h : ¬ x.number = m) : thereB m l = false := by simp [thereB, hp, hx, h]
theorem there_end {m : Int} {l : List Lk} {j : Nat} (hp : pos m l = j) (hx : l.length ≤ j) : thereB m l = false := by simp [thereB, hp, List.getElem?_eq_none hx]

set_option maxHeartbeats 400000 in
theorem refholder_any (A : Option Addr) (n c : Nat) (l : List Lk) (m : Int) (w : World) (hs : Sl w w.heap.size 2 Lk.cells A n l) (hn : n ≤ 1000000) :
    Calls Try.prog 15 #[.slice A n c, .int .i64 m] w fun e w' => e = .returned (.int .i64 (holder m l)) ∧ Below w.heap.size w w' := by
  have HL := Lib.hid hs.len
  go_enter Try.func15, Try.ntmps15
  go_wp2_with fail
  go_loopw [5] (fun i wr => ∃ k : Nat, k ≤ n ∧ i = .int .i64 k ∧ Hid (holder m l = holder m (l.drop k)) ∧ Below w.heap.size w wr) (fun i _ => n - (intOf i).toNat)
  case atStart => exact ⟨0, Nat.zero_le _, rfl, Lib.hid rfl, Below.refl _ _⟩
  case round =>
    obtain ⟨k, hk, rfl, hh, hb⟩ := hrel
    by_cases hlt : k < n
    · obtain ⟨ab, ao, rfl, hlo, hat⟩ := hs.at_ (by omega)
      obtain ⟨x, hx⟩ : ∃ x, l[k]? = some x := ⟨_, List.getElem?_eq_getElem (by rw [HL.out]; exact hlt)⟩
      have c0 : wr.cell? ⟨ab, ao + k * 2, none⟩ = some (.int .i64 x.number) := (belc hb hlo).trans (hat k x hx 0 _ rfl)
      have c1 : wr.cell? ⟨ab, ao + k * 2 + 1, none⟩ = some (.int .i64 x.holder) := (belc hb hlo).trans (hat k x hx 1 _ rfl)
      have hd : l.drop k = x :: l.drop (k + 1) := by
        obtain ⟨h1, rfl⟩ := List.getElem?_eq_some_iff.1 hx
        exact List.drop_eq_getElem_cons h1
      have HD := Lib.hid (show holder m (l.drop k) = if x.number = m then x.holder else holder m (l.drop (k + 1)) from by rw [hd]; rfl)
      clear hat hx hd
      by_cases he : x.number = m
      · have HE := Lib.hid (show holder m l = x.holder from by rw [hh.out, HD.out, if_pos he])
        go_wp2
        go_ret
        exact ⟨by rw [HE.out]; rfl, hb⟩
      · have HE := Lib.hid (show holder m l = holder m (l.drop (k + 1)) from by rw [hh.out, HD.out, if_neg he])
        go_wp2
        go_roundw
        case rel => exact ⟨k + 1, by omega, by go_num, HE, hb⟩
        case measure => simp [intOf]; omega
    · obtain rfl : k = n := by omega
      have HE := Lib.hid (show holder m l = 0 from by rw [hh.out, List.drop_eq_nil_of_le (by rw [HL.out]; exact Nat.le_refl _)]; rfl)
      go_wp2
      go_ret
      exact ⟨by rw [HE.out]; rfl, hb⟩

set_option maxHeartbeats 2000000 in
theorem with_any (A : Option Addr) (n c : Nat) (l : List Lk) (m h : Int) (w : World) (hs : Sl w w.heap.size 2 Lk.cells A n l) (hroom : Room A n c) (hn : n ≤ 1000) :
    Calls Try.prog 26 #[.slice A n c, .int .i64 m, .int .i64 h] w (Gives (setL m h l) w) := by
  obtain ⟨i0, hi, hz0, hz1, hz2⟩ := info_parts CloneLock.infoE
  have hnc := hroom.1
  have hform := hroom.2
  have HL := Lib.hid hs.len
  have HSP := Lib.hid (setL_pos m h l)
  have HPL := Lib.hid (show pos m l ≤ n from by rw [← HL.out]; exact pos_le m l)
  go_enter Try.func26, Try.ntmps26
  go_wp2_with fail
  go_loopw [7, 8] (fun o i wr => ∃ (j : Nat) (A2 : Option Addr) (c2 : Nat), j ≤ n ∧ i = .int .i64 j ∧ o = .slice A2 j c2 ∧ Hid (wr.ownsRow w.heap.size 43 2 (.slice A2 j c2) j ((l.take j).flatMap Lk.cells)) ∧ Hid (∀ (i : Nat) (y : Lk), i < j → l[i]? = some y → y.number < m) ∧ Below w.heap.size w wr) (fun _ i _ => n - (intOf i).toNat)
  case atStart => exact ⟨0, none, 0, Nat.zero_le _, rfl, rfl, Lib.hid (World.ownsRow_nil _ _ _ _), Lib.hid (fun j y hj => absurd hj (by omega)), Below.refl _ _⟩
  case round =>
    obtain ⟨j, A2, c2, hj, rfl, rfl, hown, hall, hb2⟩ := hrel
    have hz2' := hb2.size
    by_cases hlt2 : j < n
    · obtain ⟨x, hx⟩ : ∃ x, l[j]? = some x := ⟨_, List.getElem?_eq_getElem (by rw [HL.out]; exact hlt2)⟩
      obtain ⟨ab, ao, rfl, hlo, hat⟩ := hs.at_ (by omega)
      have c0 : wr.cell? ⟨ab, ao + j * 2, none⟩ = some (.int .i64 x.number) := (belc hb2 hlo).trans (hat j x hx 0 _ rfl)
      have c1 : wr.cell? ⟨ab, ao + j * 2 + 1, none⟩ = some (.int .i64 x.holder) := (belc hb2 hlo).trans (hat j x hx 1 _ rfl)
      have HX := Lib.hid hx
      have HC0 := Lib.hid (hat j x hx 0 _ rfl)
      clear hx hat
      by_cases he : x.number < m
      · have HO := Lib.hid (own_below hown.out ((by repeat (first | (with_reducible exact (Below.refl wr.heap.size wr)) | (with_reducible refine Below.drew ?_) | (with_reducible refine below_drewN ?_ _) | (with_reducible refine Below.setCell ?_ ?_ _; rotate_left; (first | omega | (simp <;> omega))) | (with_reducible refine Below.alloc ?_ ?_ _; rotate_left; (first | omega | (simp <;> omega))))) : Below wr.heap.size wr (wr.alloc (.cells #[.int .i64 x.number, .int .i64 x.holder] 43))))
        have HT := Lib.hid (show (l.take (j + 1)).flatMap Lk.cells = (l.take j).flatMap Lk.cells ++ Lk.cells x from by rw [List.take_add_one, HX.out]; simp)
        go_wp2_with (at_builtin; refine wpList_append_any rfl _ _ 23 rfl w.heap.size 43 i0 _ 2 16 Try.underlying23 hi hz0 hz1 hz2 rfl (by decide) _ j ((l.take j).flatMap Lk.cells) (by simp [Act.eval]) HO.out (some ⟨wr.heap.size, 0, none⟩) 1 1 (Lk.cells x) (by simp [Act.eval]) (by intro h; cases h) rfl (fun ad h j' u hu => by injection h with h; subst h; rw [Addr.add_lit, cell_new _ _ _ _ _ rfl, Nat.zero_add, ← Array.getElem?_toList]; exact hu) (by simp [Lk.cells, Value.oneCell']) (by unfold maxLen; omega) (by omega) (by first | omega | (simp; omega)) ?_; intro A3 c3 w3 hown3 hgr3 hA3; have H3 := Lib.hid hown3; have HG3 := Lib.hid hgr3; clear hown3 hgr3 hA3)
        go_roundw
        case rel =>
          refine ⟨j + 1, A3, c3, by omega, by go_num, rfl, Lib.hid (by rw [HT.out]; exact H3.out), Lib.hid (fun i y hi hy => ?_), (hb2.alloc hz2' _).grown HG3.out (by simp; omega) (fun g hg => (own_block_lt hown.out hg).1)⟩
          by_cases hij : i = j
          · subst hij; rw [HX.out] at hy; injection hy with hy; subst hy; exact he
          · exact hall.out i y (by omega) hy
        case measure => simp [intOf]; omega
      · have HP := Lib.hid (show pos m l = j from pos_of (by rw [HL.out]; exact hj) hall.out (fun y hy => by rw [HX.out] at hy; injection hy with hy; subst hy; exact he))
        by_cases hm : x.number = m
        · obtain ⟨ad, hA, hsrc⟩ := sl_cut hs Lk.size hnc (show (j + 1) ≤ n by omega)
          have HSRC := Lib.hid hsrc
          clear hsrc
          have HR := Lib.hid (show setL m h l = l.take j ++ ((if h = 0 then [] else [⟨m, h⟩]) ++ l.drop (j + 1)) from by rw [HSP.out, there_yes HP.out HX.out hm, HP.out, if_pos rfl])
          by_cases h0 : h = 0
          · subst h0
            have HR0 := Lib.hid (show setL m 0 l = l.take j ++ l.drop (j + 1) from by rw [HR.out]; simp)
            go_wp2_with (at_builtin; refine wpList_append_any rfl (.tmp 54) _ 23 rfl w.heap.size 43 i0 _ 2 16 Try.underlying23 hi hz0 hz1 hz2 rfl (by decide) _ j ((l.take j).flatMap Lk.cells) (by simp [Act.eval]) hown.out (some ad) (n - (j + 1)) (c - (j + 1)) ((l.drop (j + 1)).flatMap Lk.cells) (by simp [Act.eval]) (by intro h; cases h) (by rw [flat_len Lk.size, List.length_drop, HL.out]) (HSRC.out _ hb2) (lk_one (l.drop (j + 1))) (by unfold maxLen; omega) (by omega) (by first | omega | (simp; omega)) ?_; intro A5 c5 w5 hown5 hgr5 hor5; have H5 := Lib.hid hown5; have HG5 := Lib.hid hgr5; clear hown5 hgr5 hor5)
            go_ret
            exact give_row (by rw [HR0.out, List.length_append, List.length_take]; have := HL.out; rw [List.length_drop]; omega) (by rw [HR0.out, List.flatMap_append]; exact own_eq (by omega) H5.out) (hb2.grown HG5.out (by omega) (fun g hg => (own_block_lt hown.out hg).1))
          · have HR0 := Lib.hid (show setL m h l = l.take j ++ [⟨m, h⟩] ++ l.drop (j + 1) from by rw [HR.out]; simp [h0])
            have HO := Lib.hid (own_below hown.out ((by repeat (first | (with_reducible exact (Below.refl wr.heap.size wr)) | (with_reducible refine Below.drew ?_) | (with_reducible refine below_drewN ?_ _) | (with_reducible refine Below.setCell ?_ ?_ _; rotate_left; (first | omega | (simp <;> omega))) | (with_reducible refine Below.alloc ?_ ?_ _; rotate_left; (first | omega | (simp <;> omega))))) : Below wr.heap.size wr (wr.alloc (.cells #[.int .i64 m, .int .i64 h] 43))))
            go_wp2_with (first | (at_builtin; refine wpList_append_any rfl (.tmp 33) _ 23 rfl w.heap.size 43 i0 _ 2 16 Try.underlying23 hi hz0 hz1 hz2 rfl (by decide) _ j ((l.take j).flatMap Lk.cells) (by simp [Act.eval]) HO.out (some ⟨wr.heap.size, 0, none⟩) 1 1 (Lk.cells ⟨m, h⟩) (by simp [Act.eval]) (by intro h; cases h) rfl (fun ad h j' u hu => by injection h with h; subst h; rw [Addr.add_lit, cell_new _ _ _ _ _ rfl, Nat.zero_add, ← Array.getElem?_toList]; exact hu) (by simp [Lk.cells, Value.oneCell']) (by unfold maxLen; omega) (by omega) (by first | omega | (simp; omega)) ?_; intro A3 c3 w3 hown3 hgr3 hA3; have hb3 : Below w.heap.size w w3 := (hb2.alloc hz2' _).grown hgr3 (by simp; omega) (fun g hg => (own_block_lt hown.out hg).1); have H3 := Lib.hid hown3; have c03 : w3.cell? ⟨ab, ao + j * 2, none⟩ = some (.int .i64 x.number) := (belc hb3 hlo).trans HC0.out; clear hown3 hgr3 hA3) | (at_builtin; refine wpList_append_any rfl (.tmp 54) _ 23 rfl w.heap.size 43 i0 _ 2 16 Try.underlying23 hi hz0 hz1 hz2 rfl (by decide) _ (j + 1) ((l.take j).flatMap Lk.cells ++ Lk.cells ⟨m, h⟩) (by simp [Act.eval]) H3.out (some ad) (n - (j + 1)) (c - (j + 1)) ((l.drop (j + 1)).flatMap Lk.cells) (by simp [Act.eval]) (by intro h; cases h) (by rw [flat_len Lk.size, List.length_drop, HL.out]) (HSRC.out _ hb3) (lk_one (l.drop (j + 1))) (by unfold maxLen; omega) (by omega) (by have := hb3.size; omega) ?_; intro A5 c5 w5 hown5 hgr5 hor5; have H5 := Lib.hid hown5; have HG5 := Lib.hid hgr5; clear hown5 hgr5 hor5))
            go_ret
            exact give_row (by rw [HR0.out, List.length_append, List.length_append, List.length_take]; have := HL.out; rw [List.length_drop]; simp; omega) (by rw [HR0.out, List.flatMap_append, List.flatMap_append]; exact own_eq (by omega) H5.out) (hb3.grown HG5.out (by have := hb3.size; omega) (fun g hg => (own_block_lt H3.out hg).1))
        · obtain ⟨ad, hA, hsrc⟩ := sl_cut hs Lk.size hnc (show j ≤ n by omega)
          obtain rfl : ad = ⟨ab, ao + j * 2, none⟩ := by rw [if_neg (by omega)] at hA; injection hA with hA; exact hA.symm
          have HSRC := Lib.hid hsrc
          clear hsrc
          have HR := Lib.hid (show setL m h l = l.take j ++ ((if h = 0 then [] else [⟨m, h⟩]) ++ l.drop j) from by rw [HSP.out, there_no HP.out HX.out hm, HP.out, if_neg Bool.false_ne_true])
          by_cases h0 : h = 0
          · subst h0
            have HR0 := Lib.hid (show setL m 0 l = l.take j ++ l.drop j from by rw [HR.out]; simp)
            go_wp2_with (at_builtin; refine wpList_append_any rfl (.tmp 54) _ 23 rfl w.heap.size 43 i0 _ 2 16 Try.underlying23 hi hz0 hz1 hz2 rfl (by decide) _ j ((l.take j).flatMap Lk.cells) (by simp [Act.eval]) hown.out (some ⟨ab, ao + j * 2, none⟩) (n - j) (c - j) ((l.drop j).flatMap Lk.cells) (by simp [Act.eval]) (by intro h; cases h) (by rw [flat_len Lk.size, List.length_drop, HL.out]) (HSRC.out _ hb2) (lk_one (l.drop j)) (by unfold maxLen; omega) (by omega) (by first | omega | (simp; omega)) ?_; intro A5 c5 w5 hown5 hgr5 hor5; have H5 := Lib.hid hown5; have HG5 := Lib.hid hgr5; clear hown5 hgr5 hor5)
            go_ret
            exact give_row (by rw [HR0.out, List.length_append, List.length_take]; have := HL.out; rw [List.length_drop]; omega) (by rw [HR0.out, List.flatMap_append]; exact own_eq (by omega) H5.out) (hb2.grown HG5.out (by omega) (fun g hg => (own_block_lt hown.out hg).1))
          · have HR0 := Lib.hid (show setL m h l = l.take j ++ [⟨m, h⟩] ++ l.drop j from by rw [HR.out]; simp [h0])
            have HO := Lib.hid (own_below hown.out ((by repeat (first | (with_reducible exact (Below.refl wr.heap.size wr)) | (with_reducible refine Below.drew ?_) | (with_reducible refine below_drewN ?_ _) | (with_reducible refine Below.setCell ?_ ?_ _; rotate_left; (first | omega | (simp <;> omega))) | (with_reducible refine Below.alloc ?_ ?_ _; rotate_left; (first | omega | (simp <;> omega))))) : Below wr.heap.size wr (wr.alloc (.cells #[.int .i64 m, .int .i64 h] 43))))
            go_wp2_with (first | (at_builtin; refine wpList_append_any rfl (.tmp 33) _ 23 rfl w.heap.size 43 i0 _ 2 16 Try.underlying23 hi hz0 hz1 hz2 rfl (by decide) _ j ((l.take j).flatMap Lk.cells) (by simp [Act.eval]) HO.out (some ⟨wr.heap.size, 0, none⟩) 1 1 (Lk.cells ⟨m, h⟩) (by simp [Act.eval]) (by intro h; cases h) rfl (fun ad h j' u hu => by injection h with h; subst h; rw [Addr.add_lit, cell_new _ _ _ _ _ rfl, Nat.zero_add, ← Array.getElem?_toList]; exact hu) (by simp [Lk.cells, Value.oneCell']) (by unfold maxLen; omega) (by omega) (by first | omega | (simp; omega)) ?_; intro A3 c3 w3 hown3 hgr3 hA3; have hb3 : Below w.heap.size w w3 := (hb2.alloc hz2' _).grown hgr3 (by simp; omega) (fun g hg => (own_block_lt hown.out hg).1); have H3 := Lib.hid hown3; have c03 : w3.cell? ⟨ab, ao + j * 2, none⟩ = some (.int .i64 x.number) := (belc hb3 hlo).trans HC0.out; clear hown3 hgr3 hA3) | (at_builtin; refine wpList_append_any rfl (.tmp 54) _ 23 rfl w.heap.size 43 i0 _ 2 16 Try.underlying23 hi hz0 hz1 hz2 rfl (by decide) _ (j + 1) ((l.take j).flatMap Lk.cells ++ Lk.cells ⟨m, h⟩) (by simp [Act.eval]) H3.out (some ⟨ab, ao + j * 2, none⟩) (n - j) (c - j) ((l.drop j).flatMap Lk.cells) (by simp [Act.eval]) (by intro h; cases h) (by rw [flat_len Lk.size, List.length_drop, HL.out]) (HSRC.out _ hb3) (lk_one (l.drop j)) (by unfold maxLen; omega) (by omega) (by have := hb3.size; omega) ?_; intro A5 c5 w5 hown5 hgr5 hor5; have H5 := Lib.hid hown5; have HG5 := Lib.hid hgr5; clear hown5 hgr5 hor5))
            go_ret
            exact give_row (by rw [HR0.out, List.length_append, List.length_append, List.length_take]; have := HL.out; rw [List.length_drop]; simp; omega) (by rw [HR0.out, List.flatMap_append, List.flatMap_append]; exact own_eq (by omega) H5.out) (hb3.grown HG5.out (by have := hb3.size; omega) (fun g hg => (own_block_lt H3.out hg).1))
    · obtain rfl : j = n := by omega
      have HP := Lib.hid (show pos m l = j from pos_of (by rw [HL.out]; exact hj) hall.out (fun y hy => by rw [List.getElem?_eq_none (by rw [HL.out]; exact Nat.le_refl _)] at hy; cases hy))
      rcases hform with ⟨rfl, rfl⟩ | ⟨ab, ao, rfl⟩
      · obtain rfl : j = 0 := by omega
        have HL0 := Lib.hid (show l = [] from List.eq_nil_of_length_eq_zero HL.out)
        have HR := Lib.hid (show setL m h l = l.take 0 ++ ((if h = 0 then [] else [⟨m, h⟩]) ++ []) from by rw [HSP.out, there_end HP.out (by rw [HL.out]; omega), HP.out, if_neg Bool.false_ne_true]; simp [HL0.out])
        by_cases h0 : h = 0
        · subst h0
          have HR0 := Lib.hid (show setL m 0 l = l.take 0 ++ [] from by rw [HR.out]; simp)
          go_wp2_with (at_builtin; refine wpList_append_any rfl (.tmp 54) _ 23 rfl w.heap.size 43 i0 _ 2 16 Try.underlying23 hi hz0 hz1 hz2 rfl (by decide) _ 0 ((l.take 0).flatMap Lk.cells) (by simp [Act.eval]) hown.out none 0 0 [] (by simp [Act.eval]) (fun _ => rfl) rfl (fun ad h => by cases h) (by simp) (by unfold maxLen; omega) (by omega) (by first | omega | (simp; omega)) ?_; intro A5 c5 w5 hown5 hgr5 hor5; have H5 := Lib.hid hown5; have HG5 := Lib.hid hgr5; clear hown5 hgr5 hor5)
          go_ret
          exact give_row (by rw [HR0.out, List.length_append, List.length_take]; have := HL.out; first | omega | (simp; done) | (simp; omega)) (by rw [HR0.out, List.flatMap_append]; exact own_eq (by omega) H5.out) (hb2.grown HG5.out (by omega) (fun g hg => (own_block_lt hown.out hg).1))
        · have HR0 := Lib.hid (show setL m h l = l.take 0 ++ [⟨m, h⟩] ++ [] from by rw [HR.out]; simp [h0])
          have HO := Lib.hid (own_below hown.out ((by repeat (first | (with_reducible exact (Below.refl wr.heap.size wr)) | (with_reducible refine Below.drew ?_) | (with_reducible refine below_drewN ?_ _) | (with_reducible refine Below.setCell ?_ ?_ _; rotate_left; (first | omega | (simp <;> omega))) | (with_reducible refine Below.alloc ?_ ?_ _; rotate_left; (first | omega | (simp <;> omega))))) : Below wr.heap.size wr (wr.alloc (.cells #[.int .i64 m, .int .i64 h] 43))))
          go_wp2_with (first | (at_builtin; refine wpList_append_any rfl (.tmp 33) _ 23 rfl w.heap.size 43 i0 _ 2 16 Try.underlying23 hi hz0 hz1 hz2 rfl (by decide) _ 0 ((l.take 0).flatMap Lk.cells) (by simp [Act.eval]) HO.out (some ⟨wr.heap.size, 0, none⟩) 1 1 (Lk.cells ⟨m, h⟩) (by simp [Act.eval]) (by intro h; cases h) rfl (fun ad h j' u hu => by injection h with h; subst h; rw [Addr.add_lit, cell_new _ _ _ _ _ rfl, Nat.zero_add, ← Array.getElem?_toList]; exact hu) (by simp [Lk.cells, Value.oneCell']) (by unfold maxLen; omega) (by omega) (by first | omega | (simp; omega)) ?_; intro A3 c3 w3 hown3 hgr3 hA3; have hb3 : Below w.heap.size w w3 := (hb2.alloc hz2' _).grown hgr3 (by simp; omega) (fun g hg => (own_block_lt hown.out hg).1); have H3 := Lib.hid hown3; clear hown3 hgr3 hA3) | (at_builtin; refine wpList_append_any rfl (.tmp 54) _ 23 rfl w.heap.size 43 i0 _ 2 16 Try.underlying23 hi hz0 hz1 hz2 rfl (by decide) _ (0 + 1) ((l.take 0).flatMap Lk.cells ++ Lk.cells ⟨m, h⟩) (by simp [Act.eval]) H3.out none 0 0 [] (by simp [Act.eval]) (fun _ => rfl) rfl (fun ad h => by cases h) (by simp) (by unfold maxLen; omega) (by omega) (by have := hb3.size; omega) ?_; intro A5 c5 w5 hown5 hgr5 hor5; have H5 := Lib.hid hown5; have HG5 := Lib.hid hgr5; clear hown5 hgr5 hor5))
          go_ret
          exact give_row (by rw [HR0.out, List.length_append, List.length_append, List.length_take]; have := HL.out; first | omega | (simp; done) | (simp; omega)) (by rw [HR0.out, List.flatMap_append, List.flatMap_append]; exact own_eq (by omega) H5.out) (hb3.grown HG5.out (by have := hb3.size; omega) (fun g hg => (own_block_lt H3.out hg).1))
      · obtain ⟨ad, hA, hsrc⟩ := sl_cut hs Lk.size hnc (show j ≤ j by omega)
        have HSRC := Lib.hid hsrc
        clear hsrc
        have HR := Lib.hid (show setL m h l = l.take j ++ ((if h = 0 then [] else [⟨m, h⟩]) ++ l.drop j) from by rw [HSP.out, there_end HP.out (by rw [HL.out]; omega), HP.out, if_neg Bool.false_ne_true])
        by_cases h0 : h = 0
        · subst h0
          have HR0 := Lib.hid (show setL m 0 l = l.take j ++ l.drop j from by rw [HR.out]; simp)
          go_wp2_with (at_builtin; refine wpList_append_any rfl (.tmp 54) _ 23 rfl w.heap.size 43 i0 _ 2 16 Try.underlying23 hi hz0 hz1 hz2 rfl (by decide) _ j ((l.take j).flatMap Lk.cells) (by simp [Act.eval]) hown.out (some ad) (j - j) (c - j) ((l.drop j).flatMap Lk.cells) (by simp [Act.eval]) (by intro h; cases h) (by rw [flat_len Lk.size, List.length_drop, HL.out]) (HSRC.out _ hb2) (lk_one (l.drop j)) (by unfold maxLen; omega) (by omega) (by first | omega | (simp; omega)) ?_; intro A5 c5 w5 hown5 hgr5 hor5; have H5 := Lib.hid hown5; have HG5 := Lib.hid hgr5; clear hown5 hgr5 hor5)
          go_ret
          exact give_row (by rw [HR0.out, List.length_append, List.length_take]; have := HL.out; rw [List.length_drop]; omega) (by rw [HR0.out, List.flatMap_append]; exact own_eq (by omega) H5.out) (hb2.grown HG5.out (by omega) (fun g hg => (own_block_lt hown.out hg).1))
        · have HR0 := Lib.hid (show setL m h l = l.take j ++ [⟨m, h⟩] ++ l.drop j from by rw [HR.out]; simp [h0])
          have HO := Lib.hid (own_below hown.out ((by repeat (first | (with_reducible exact (Below.refl wr.heap.size wr)) | (with_reducible refine Below.drew ?_) | (with_reducible refine below_drewN ?_ _) | (with_reducible refine Below.setCell ?_ ?_ _; rotate_left; (first | omega | (simp <;> omega))) | (with_reducible refine Below.alloc ?_ ?_ _; rotate_left; (first | omega | (simp <;> omega))))) : Below wr.heap.size wr (wr.alloc (.cells #[.int .i64 m, .int .i64 h] 43))))
          go_wp2_with (first | (at_builtin; refine wpList_append_any rfl (.tmp 33) _ 23 rfl w.heap.size 43 i0 _ 2 16 Try.underlying23 hi hz0 hz1 hz2 rfl (by decide) _ j ((l.take j).flatMap Lk.cells) (by simp [Act.eval]) HO.out (some ⟨wr.heap.size, 0, none⟩) 1 1 (Lk.cells ⟨m, h⟩) (by simp [Act.eval]) (by intro h; cases h) rfl (fun ad h j' u hu => by injection h with h; subst h; rw [Addr.add_lit, cell_new _ _ _ _ _ rfl, Nat.zero_add, ← Array.getElem?_toList]; exact hu) (by simp [Lk.cells, Value.oneCell']) (by unfold maxLen; omega) (by omega) (by first | omega | (simp; omega)) ?_; intro A3 c3 w3 hown3 hgr3 hA3; have hb3 : Below w.heap.size w w3 := (hb2.alloc hz2' _).grown hgr3 (by simp; omega) (fun g hg => (own_block_lt hown.out hg).1); have H3 := Lib.hid hown3; clear hown3 hgr3 hA3) | (at_builtin; refine wpList_append_any rfl (.tmp 54) _ 23 rfl w.heap.size 43 i0 _ 2 16 Try.underlying23 hi hz0 hz1 hz2 rfl (by decide) _ (j + 1) ((l.take j).flatMap Lk.cells ++ Lk.cells ⟨m, h⟩) (by simp [Act.eval]) H3.out (some ad) (j - j) (c - j) ((l.drop j).flatMap Lk.cells) (by simp [Act.eval]) (by intro h; cases h) (by rw [flat_len Lk.size, List.length_drop, HL.out]) (HSRC.out _ hb3) (lk_one (l.drop j)) (by unfold maxLen; omega) (by omega) (by have := hb3.size; omega) ?_; intro A5 c5 w5 hown5 hgr5 hor5; have H5 := Lib.hid hown5; have HG5 := Lib.hid hgr5; clear hown5 hgr5 hor5))
          go_ret
          exact give_row (by rw [HR0.out, List.length_append, List.length_append, List.length_take]; have := HL.out; rw [List.length_drop]; simp; omega) (by rw [HR0.out, List.flatMap_append, List.flatMap_append]; exact own_eq (by omega) H5.out) (hb3.grown HG5.out (by have := hb3.size; omega) (fun g hg => (own_block_lt H3.out hg).1))
end Go.Proofs.Ytkagaelhlghagaa
