/- A lock changes hands: set, Take, Give, Hold, Free of the program. -/
import Derived.Test.YtkagaelhlghagaaA
import Derived.Test.YtkagaelhlghagaaCloneLR
import Derived.Test.YtkagaelhlghagaaInsL
import Derived.Test.YtkagaelhlghagaaDelL
namespace Go.Proofs.Ytkagaelhlghagaa
open Go.RowKit

/-- What a call leaves that gives locks. -/
def Gives (l : List Lk) (w : World) (e : Ending) (w' : World) : Prop := ∃ A' n' c', e = .returned (.slice A' n' c') ∧ n' = l.length ∧ Sl w' w'.heap.size 2 Lk.cells A' n' l ∧ Below w.heap.size w w' ∧ (∀ ad, A' = some ad → w.heap.size ≤ ad.block) ∧ Room A' n' c'
/-- What a call leaves that gives locks and an error; the locks may be those that came in. -/
def GivesE (A : Option Addr) (r : List Lk) (er : Int) (w : World) (e : Ending) (w' : World) : Prop := ∃ A' n' c', e = .returned (.tuple #[.slice A' n' c', .int .i64 er]) ∧ n' = r.length ∧ Sl w' w'.heap.size 2 Lk.cells A' n' r ∧ Below w.heap.size w w' ∧ (A' = A ∨ ∀ ad, A' = some ad → w.heap.size ≤ ad.block) ∧ Room A' n' c'

theorem ins_sl {w : World} {base n i : Nat} {A : Option Addr} {c : Nat} {l : List Lk} {x : Lk} (hl : l.length = n) (_hi : i ≤ n) (h : w.ownsRow base 43 2 (.slice A (n + 1) c) (n + 1) ((l.flatMap Lk.cells).take (i * 2) ++ Lk.cells x ++ (l.flatMap Lk.cells).drop (i * 2))) :
    Sl w w.heap.size 2 Lk.cells A (n + 1) (l.take i ++ [x] ++ l.drop i) ∧ (∀ ad, A = some ad → base ≤ ad.block) := by
  rw [flat_take Lk.size, flat_drop Lk.size] at h
  have h' : w.ownsRow base 43 2 (.slice A (n + 1) c) (n + 1) ((l.take i ++ [x] ++ l.drop i).flatMap Lk.cells) := by simpa using h
  refine ⟨Sl.of_own Lk.size (by simp; omega) h', fun ad hA => ?_⟩
  obtain ⟨g, rfl, h1, _⟩ := own_at0 h (by omega)
  injection hA with hA
  subst hA
  exact h1

theorem there_at {m : Int} {l : List Lk} (h : thereB m l = true) : ∃ x, l[pos m l]? = some x ∧ x.number = m := by
  unfold thereB at h
  split at h
  · rename_i x hx; exact ⟨x, hx, of_decide_eq_true h⟩
  · cases h

set_option maxHeartbeats 1000000 in
theorem set_any (A : Option Addr) (n c : Nat) (l : List Lk) (m h : Int) (w : World) (hs : Sl w w.heap.size 2 Lk.cells A n l) (hasc : Asc l) (hn : n ≤ 1000) :
    Calls Try.prog 25 #[.slice A n c, .int .i64 m, .int .i64 h] w (Gives (setL m h l) w) := by
  have HL := Lib.hid hs.len
  have HA := Lib.hid hasc
  go_enter Try.func25, Try.ntmps25
  go_wp2_with fail
  refine (CloneLock.recs A n c l w hs (by omega)).mono ?_
  rintro e w1 ⟨A1, c1, rfl, hown1, hs1, hb1, hg1⟩
  have hz1 := hb1.size
  have HO1 := Lib.hid hown1
  have HG1 := Lib.hid hg1
  have HS1 := Lib.hid hs1
  clear hown1 hg1 hs1 hasc
  go_wp2_with fail
  refine (search_any A1 n c1 l m w1 HS1.out HA.out (by omega)).mono ?_
  rintro e w2 ⟨rfl, hb2⟩
  have hz2 := hb2.size
  have hbw2 : Below w.heap.size w w2 := hb1.trans (hb2.mono hz1)
  have HO2 := Lib.hid (own_below HO1.out hb2)
  have HSP := Lib.hid (setL_pos m h l)
  obtain ⟨i, hi⟩ : ∃ i, i = pos m l := ⟨_, rfl⟩
  have hil : i ≤ n := by rw [hi, ← HL.out]; exact pos_le m l
  cases ht : thereB m l with
  | true =>
    obtain ⟨x, hx, hxm⟩ := there_at ht
    rw [← hi] at hx
    have hin : i < n := by rw [← HL.out]; exact (List.getElem?_eq_some_iff.1 hx).1
    obtain ⟨g, hA1, hg0, hg1, hfz⟩ := HG1.out (by omega)
    subst hA1
    by_cases h0 : h = 0
    · subst h0
      have HR := Lib.hid (show setL m 0 l = l.take i ++ l.drop (i + 1) from by rw [HSP.out, ht, hi]; simp)
      have HI := Lib.hid hi
      clear ht hi hx hxm hfz
      rw [← HI.out]
      go_wp2_with fail
      rw [show (↑i + 1 : Int) = ((i + 1 : Nat) : Int) from by omega]
      refine (DelLock.any g 0 n c1 i (i + 1) w.heap.size (l.flatMap Lk.cells) w2 (Row.of_own HO2.out) (by omega) (by omega) (by omega) (own_cap HO2.out) (lk_one l)).mono ?_
      rintro e w3 ⟨rfl, hrow, hgr⟩
      rw [show n - (i + 1 - i) = n - 1 from by omega] at hrow ⊢
      have hb3 : Below w.heap.size w w3 := hbw2.grown hgr (by omega) (fun k hk => by injection hk with hk; omega)
      have hln : n - 1 = (setL m 0 l).length := by have := HL.out; rw [HR.out, List.length_append, List.length_take, List.length_drop]; omega
      rw [flat_take Lk.size, flat_drop Lk.size, ← List.flatMap_append, ← HR.out] at hrow
      have HS3 := Lib.hid (hrow.sl Lk.size hln.symm)
      have HLN := Lib.hid hln
      have HRM := Lib.hid (show Room (some ⟨g, 0, none⟩) (n - 1) c1 from ⟨hrow.le, .inr ⟨g, 0, rfl⟩⟩)
      clear hln hrow
      go_wp2
      go_ret
      exact ⟨_, _, _, rfl, HLN.out, HS3.out, hb3, fun ad had => by injection had with had; subst had; exact hg0, HRM.out⟩
    · have HR := Lib.hid (show setL m h l = l.modify i (fun x => ⟨x.number, h⟩) from by
        rw [HSP.out, ht, if_neg h0, if_pos rfl, ← hi]
        have hd : l.drop i = x :: l.drop (i + 1) := by
          obtain ⟨hlt, rfl⟩ := List.getElem?_eq_some_iff.1 hx
          exact List.drop_eq_getElem_cons hlt
        rw [List.modify_eq_take_drop, hd, List.modifyHead_cons, hxm]
        rfl)
      have HI := Lib.hid hi
      have HX := Lib.hid hx
      clear ht hi hx hxm
      rw [← HI.out]
      have HS2 := Lib.hid (HS1.out.up hb2)
      have c1 : w2.cell? ⟨g, i * 2 + 1, none⟩ = some (.int .i64 x.holder) := by have := sl_at HS2.out HX.out (j := 1) rfl; rwa [Nat.zero_add] at this
      have f1 : w2.frozen? ⟨g, i * 2 + 1, none⟩ = false := (belf hb2 hg1).trans (hfz _)
      clear hfz
      go_wp2
      go_ret
      have hln : n = (setL m h l).length := by rw [HR.out, List.length_modify]; exact HL.out.symm
      refine ⟨some ⟨g, 0, none⟩, n, _, rfl, hln, ?_, hbw2.setCell (p := ⟨g, i * 2 + 1, none⟩) (by show _ ≤ g; omega) _, by rintro ad ⟨⟩; show _ ≤ g; omega, own_Room HO2.out⟩
      rw [HR.out]
      exact (Sl.mod1 Lk.size HS2.out HX.out (j := 1) (by omega) rfl _ (by simp)).mono (by simp)
  | false =>
    by_cases h0 : h = 0
    · subst h0
      have HR := Lib.hid (show setL m 0 l = l from by rw [HSP.out, ht]; simp)
      have HS2 := Lib.hid (HS1.out.up hb2)
      have hlo : ∀ ad, A1 = some ad → w.heap.size ≤ ad.block := own_lo HO1.out (Nat.le_refl _)
      have HLO := Lib.hid hlo
      clear ht hi hlo
      go_wp2
      go_ret
      exact ⟨A1, n, c1, rfl, by rw [HR.out]; exact HL.out.symm, by rw [HR.out]; exact HS2.out, hbw2, HLO.out, own_Room HO2.out⟩
    · have HR := Lib.hid (show setL m h l = l.take i ++ [⟨m, h⟩] ++ l.drop i from by rw [HSP.out, ht, if_neg h0, ← hi]; simp)
      have HI := Lib.hid hi
      clear ht hi
      rw [← HI.out]
      have hbl : (Value.slice A1 n c1).ownBlock ≠ some w2.heap.size := by
        intro h
        exact Nat.lt_irrefl _ (own_block_lt HO2.out h).2
      go_wp2_with fail
      refine (InsLock.any (.slice A1 n c1) n i (l.flatMap Lk.cells) (Lk.cells ⟨m, h⟩) w.heap.size w2.heap.size _ (own_below HO2.out ((by repeat (first | (with_reducible exact (Below.refl _ _)) | (with_reducible refine Below.drew ?_) | (with_reducible refine below_drewN ?_ _) | (with_reducible refine Below.setCell ?_ ?_ _; rotate_left; (first | omega | (simp <;> omega))) | (with_reducible refine Below.alloc ?_ ?_ _; rotate_left; (first | omega | (simp <;> omega))))))) (by omega) (by omega) (by simp; omega) rfl (heap_new _ _) hbl (by simp [Lk.cells, Value.oneCell']) (lk_one l)).mono ?_
      rintro e w4 ⟨A4, c4, rfl, hown4, hgr4⟩
      obtain ⟨hs4, hl4⟩ := ins_sl HL.out hil hown4
      have hb4 : Below w.heap.size w w4 := (hbw2.alloc (by omega) _).grown hgr4 (by simp; omega) (fun g hg => (own_block_lt HO2.out hg).1)
      go_wp2
      go_ret
      have hln : n + 1 = (setL m h l).length := by have := HL.out; rw [HR.out]; simp; omega
      exact ⟨A4, n + 1, c4, rfl, hln, by rw [HR.out]; exact hs4, hb4, fun ad h => hl4 ad h, own_Room hown4⟩

theorem give_row {w w' : World} {A' : Option Addr} {n' c' : Nat} {r : List Lk} (hl : n' = r.length) (h : w'.ownsRow w.heap.size 43 2 (.slice A' n' c') n' (r.flatMap Lk.cells)) (hb : Below w.heap.size w w') : Gives r w (.returned (.slice A' n' c')) w' :=
  ⟨A', n', c', rfl, hl, Sl.of_own Lk.size hl.symm h, hb, own_lo h (Nat.le_refl _), own_Room h⟩
theorem givesE_of {A : Option Addr} {l : List Lk} {w w1 : World} {e : Ending} {w' : World} (hb : Below w.heap.size w w1) (h : Gives l w1 e w') : ∃ A' n' c', e = .returned (.slice A' n' c') ∧ n' = l.length ∧ Sl w' w'.heap.size 2 Lk.cells A' n' l ∧ Below w.heap.size w w' ∧ (A' = A ∨ ∀ ad, A' = some ad → w.heap.size ≤ ad.block) ∧ Room A' n' c' := by
  obtain ⟨A', n', c', he, hn, hs, hb', hlo, hroom⟩ := h
  have := hb.size
  exact ⟨A', n', c', he, hn, hs, hb.trans (hb'.mono hb.size), .inr fun ad had => by have := hlo ad had; omega, hroom⟩
theorem givesE_nil {A : Option Addr} {w w' : World} (er : Int) (hb : Below w.heap.size w w') : GivesE A [] er w (.returned (.tuple #[.slice none 0 0, .int .i64 er])) w' := ⟨none, 0, 0, rfl, rfl, Sl.nil, hb, .inr (fun ad h => by cases h), Room.nil⟩

set_option maxHeartbeats 400000 in
theorem take_any (A : Option Addr) (n c : Nat) (l : List Lk) (m : Int) (w : World) (hs : Sl w w.heap.size 2 Lk.cells A n l) (hasc : Asc l) (hn : n ≤ 1000) :
    Calls Try.prog 9 #[.slice A n c, .int .i64 m] w (GivesE A (takeL m l) (takeE m l) w) := by
  by_cases h0 : 0 ≤ m
  · have HE := Lib.hid (show takeE m l = 2 by simp [takeE, h0])
    have HR := Lib.hid (show takeL m l = [] by simp [takeL, h0])
    go_enter Try.func9, Try.ntmps9
    go_wp2
    go_ret2
    rw [HE.out, HR.out]
    exact givesE_nil 2 (Below.refl _ _)
  · by_cases h1 : holder m l = 1
    · have HE := Lib.hid (show takeE m l = 13 by simp [takeE, h0, h1])
      have HR := Lib.hid (show takeL m l = [] by simp [takeL, h0, h1])
      go_enter Try.func9, Try.ntmps9
      go_wp2_with fail
      refine (holder_any A n c l m w hs hasc (by omega)).mono ?_
      rintro e w1 ⟨rfl, hb1⟩
      go_wp2
      go_ret2
      rw [HE.out, HR.out]
      exact givesE_nil 13 hb1
    · have HE := Lib.hid (show takeE m l = 0 by simp [takeE, h0, h1])
      have HR := Lib.hid (show takeL m l = setL m 2 l by simp [takeL, h0, h1])
      have HM := Lib.hid h0
      go_enter Try.func9, Try.ntmps9
      go_wp2_with fail
      refine (holder_any A n c l m w hs hasc (by omega)).mono ?_
      rintro e w1 ⟨rfl, hb1⟩
      go_wp2_with fail
      refine (set_any A n c l m 2 w1 (hs.up hb1) hasc hn).mono ?_
      intro e w2 hg
      obtain ⟨A', n', c', rfl, hn', hs', hb', hlo, hroom⟩ := givesE_of (A := A) hb1 hg
      have HN := Lib.hid hn'
      have HS := Lib.hid hs'
      have HLO := Lib.hid hlo
      have HRM := Lib.hid hroom
      clear hg hn' hs' hlo hroom
      go_wp2
      go_ret2
      rw [HE.out, HR.out]
      exact ⟨A', n', c', rfl, HN.out, HS.out, hb', HLO.out, HRM.out⟩
set_option maxHeartbeats 400000 in
theorem hold_any (A : Option Addr) (n c : Nat) (l : List Lk) (m : Int) (w : World) (hs : Sl w w.heap.size 2 Lk.cells A n l) (hasc : Asc l) (hn : n ≤ 1000) :
    Calls Try.prog 16 #[.slice A n c, .int .i64 m] w (GivesE A (holdL m l) (holdE m l) w) := by
  by_cases h0 : 0 ≤ m
  · have HE := Lib.hid (show holdE m l = 2 by simp [holdE, h0])
    have HR := Lib.hid (show holdL m l = [] by simp [holdL, h0])
    go_enter Try.func16, Try.ntmps16
    go_wp2
    go_ret2
    rw [HE.out, HR.out]
    exact givesE_nil 2 (Below.refl _ _)
  · by_cases h1 : holder m l = 0
    · have HE := Lib.hid (show holdE m l = 0 by simp [holdE, h0, h1])
      have HR := Lib.hid (show holdL m l = setL m 1 l by simp [holdL, h0, h1])
      have HM := Lib.hid h0
      go_enter Try.func16, Try.ntmps16
      go_wp2_with fail
      refine (holder_any A n c l m w hs hasc (by omega)).mono ?_
      rintro e w1 ⟨rfl, hb1⟩
      go_wp2_with fail
      refine (set_any A n c l m 1 w1 (hs.up hb1) hasc hn).mono ?_
      intro e w2 hg
      obtain ⟨A', n', c', rfl, hn', hs', hb', hlo, hroom⟩ := givesE_of (A := A) hb1 hg
      have HN := Lib.hid hn'
      have HS := Lib.hid hs'
      have HLO := Lib.hid hlo
      have HRM := Lib.hid hroom
      clear hg hn' hs' hlo hroom
      go_wp2
      go_ret2
      rw [HE.out, HR.out]
      exact ⟨A', n', c', rfl, HN.out, HS.out, hb', HLO.out, HRM.out⟩
    · have HE := Lib.hid (show holdE m l = 6 by simp [holdE, h0, h1])
      have HR := Lib.hid (show holdL m l = [] by simp [holdL, h0, h1])
      go_enter Try.func16, Try.ntmps16
      go_wp2_with fail
      refine (holder_any A n c l m w hs hasc (by omega)).mono ?_
      rintro e w1 ⟨rfl, hb1⟩
      go_wp2
      go_ret2
      rw [HE.out, HR.out]
      exact givesE_nil 6 hb1
set_option maxHeartbeats 400000 in
theorem free_any (A : Option Addr) (n c : Nat) (l : List Lk) (m : Int) (w : World) (hs : Sl w w.heap.size 2 Lk.cells A n l) (hasc : Asc l) (hn : n ≤ 1000) :
    Calls Try.prog 18 #[.slice A n c, .int .i64 m] w (GivesE A (freeL m l) (freeE m l) w) := by
  by_cases h0 : 0 ≤ m
  · have HE := Lib.hid (show freeE m l = 2 by simp [freeE, h0])
    have HR := Lib.hid (show freeL m l = [] by simp [freeL, h0])
    go_enter Try.func18, Try.ntmps18
    go_wp2
    go_ret2
    rw [HE.out, HR.out]
    exact givesE_nil 2 (Below.refl _ _)
  · by_cases h1 : holder m l = 1
    · have HE := Lib.hid (show freeE m l = 0 by simp [freeE, h0, h1])
      have HR := Lib.hid (show freeL m l = setL m 0 l by simp [freeL, h0, h1])
      have HM := Lib.hid h0
      go_enter Try.func18, Try.ntmps18
      go_wp2_with fail
      refine (holder_any A n c l m w hs hasc (by omega)).mono ?_
      rintro e w1 ⟨rfl, hb1⟩
      go_wp2_with fail
      refine (set_any A n c l m 0 w1 (hs.up hb1) hasc hn).mono ?_
      intro e w2 hg
      obtain ⟨A', n', c', rfl, hn', hs', hb', hlo, hroom⟩ := givesE_of (A := A) hb1 hg
      have HN := Lib.hid hn'
      have HS := Lib.hid hs'
      have HLO := Lib.hid hlo
      have HRM := Lib.hid hroom
      clear hg hn' hs' hlo hroom
      go_wp2
      go_ret2
      rw [HE.out, HR.out]
      exact ⟨A', n', c', rfl, HN.out, HS.out, hb', HLO.out, HRM.out⟩
    · have HE := Lib.hid (show freeE m l = 5 by simp [freeE, h0, h1])
      have HR := Lib.hid (show freeL m l = [] by simp [freeL, h0, h1])
      go_enter Try.func18, Try.ntmps18
      go_wp2_with fail
      refine (holder_any A n c l m w hs hasc (by omega)).mono ?_
      rintro e w1 ⟨rfl, hb1⟩
      go_wp2
      go_ret2
      rw [HE.out, HR.out]
      exact givesE_nil 5 hb1
set_option maxHeartbeats 400000 in
theorem give_any (A : Option Addr) (n c : Nat) (l : List Lk) (m : Int) (w : World) (hs : Sl w w.heap.size 2 Lk.cells A n l) (hasc : Asc l) (hn : n ≤ 1000) :
    Calls Try.prog 11 #[.slice A n c, .int .i64 m] w (GivesE A (giveL m l) (giveE m l) w) := by
  by_cases h0 : 0 ≤ m
  · have HE := Lib.hid (show giveE m l = 2 by simp [giveE, h0])
    have HR := Lib.hid (show giveL m l = [] by simp [giveL, h0])
    go_enter Try.func11, Try.ntmps11
    go_wp2
    go_ret2
    rw [HE.out, HR.out]
    exact givesE_nil 2 (Below.refl _ _)
  · by_cases h1 : holder m l = 2
    · have HE := Lib.hid (show giveE m l = 0 by simp [giveE, h0])
      have HR := Lib.hid (show giveL m l = setL m 0 l by simp [giveL, h0, h1])
      have HM := Lib.hid h0
      go_enter Try.func11, Try.ntmps11
      go_wp2_with fail
      refine (holder_any A n c l m w hs hasc (by omega)).mono ?_
      rintro e w1 ⟨rfl, hb1⟩
      go_wp2_with fail
      refine (set_any A n c l m 0 w1 (hs.up hb1) hasc hn).mono ?_
      intro e w2 hg
      obtain ⟨A', n', c', rfl, hn', hs', hb', hlo, hroom⟩ := givesE_of (A := A) hb1 hg
      have HN := Lib.hid hn'
      have HS := Lib.hid hs'
      have HLO := Lib.hid hlo
      have HRM := Lib.hid hroom
      clear hg hn' hs' hlo hroom
      go_wp2
      go_ret2
      rw [HE.out, HR.out]
      exact ⟨A', n', c', rfl, HN.out, HS.out, hb', HLO.out, HRM.out⟩
    · have HE := Lib.hid (show giveE m l = 0 by simp [giveE, h0])
      have HR := Lib.hid (show giveL m l = l by simp [giveL, h0, h1])
      go_enter Try.func11, Try.ntmps11
      go_wp2_with fail
      refine (holder_any A n c l m w hs hasc (by omega)).mono ?_
      rintro e w1 ⟨rfl, hb1⟩
      go_wp2_with fail
      refine (CloneLock.recs A n c l w1 (hs.up hb1) (by omega)).mono ?_
      rintro e w2 ⟨A1, c1, rfl, hown1, hs1, hb2, hg1⟩
      have hbe := hb1.trans (hb2.mono hb1.size)
      have HL := Lib.hid hs.len
      have HS1 := Lib.hid hs1
      have HLO := Lib.hid (own_lo hown1 (Nat.le_refl _))
      have HRM := Lib.hid (own_Room hown1)
      have hz1 := hb1.size
      clear hown1 hs1 hg1
      go_wp2
      go_ret2
      rw [HE.out, HR.out]
      exact ⟨A1, n, c1, rfl, HL.out.symm, HS1.out, hbe, .inr fun ad had => by have := HLO.out ad had; omega, HRM.out⟩
end Go.Proofs.Ytkagaelhlghagaa
