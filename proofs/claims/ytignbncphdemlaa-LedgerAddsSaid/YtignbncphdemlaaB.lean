/- A step of a worker. -/
import Derived.Test.YtignbncphdemlaaA
import Derived.Test.YtignbncphdemlaaCloneAR
namespace Go.Proofs.Ytignbncphdemlaa
open Go.RowKit

/-- What a call leaves that gives accounts or an error. -/
def GivesE (r : List Acc × Int) (w : World) (e : Ending) (w' : World) : Prop := ∃ A' c', e = .returned (.tuple #[.slice A' r.1.length c', .int .i64 r.2]) ∧ Sl w' w'.heap.size 8 Acc.cells A' r.1.length r.1 ∧ Below w.heap.size w w' ∧ (0 < r.1.length → ∀ ad, A' = some ad → w.heap.size ≤ ad.block)
def stepE (l : List Acc) (k : Int) : List Acc × Int := if inB l.length k = true then (stepA l k.toNat, 0) else ([], 2)

set_option maxHeartbeats 400000 in
theorem step_in (A : Option Addr) (n c : Nat) (l : List Acc) (k : Nat) (w : World) (hs : Sl w w.heap.size 8 Acc.cells A n l) (hn : n ≤ 1000000) (hok : Ok 1000000 l) (hk : k < n) :
    Calls Try.prog 11 #[.slice A n c, .int .i64 k] w (GivesE (stepA l k, 0) w) := by
  have HL := Lib.hid hs.len
  have HOK := Lib.hid hok
  clear hok
  go_enter Try.func11, Try.ntmps11
  go_wp2_with fail
  refine (within_any A n c k w hn).mono ?_
  rintro e w1 ⟨rfl, hb1⟩
  rw [inB_true (by omega) (by omega)]
  have hs1 := (hs.below hb1).mono (B' := w1.heap.size) hb1.size
  go_wp2_with fail
  refine (CloneAcc.recs A n c l w1 hs1 hn).mono ?_
  rintro e w2 ⟨A2, c2, rfl, hown, hs2, hb2, hg⟩
  have hb12 := hb1.trans (hb2.mono hb1.size)
  obtain ⟨g, rfl, hg0, hg1, hfz⟩ := hg (by omega)
  obtain ⟨a, ha⟩ : ∃ a, l[k]? = some a := ⟨_, List.getElem?_eq_getElem (by rw [HL.out]; exact hk)⟩
  have c7 : w2.cell? ⟨g, k * 8 + 7, none⟩ = some (.int .i64 (a 7)) := by have := sl_at hs2 ha (Acc.at_ a 7 (by omega)); rwa [Nat.zero_add] at this
  have f7 := hfz (k * 8 + 7)
  obtain ⟨h0, h1⟩ := HOK.out.at_ ha 7 (by omega)
  have hz1 := hb1.size
  have HA := Lib.hid ha
  have HS := Lib.hid hs2
  have HN : (stepA l k).length = n := (step_len l k).trans HL.out
  clear ha hs2 hfz hs hs1
  go_wp2
  go_ret2
  refine ⟨some ⟨g, 0, none⟩, c2, by simp only [HN]; rfl, ?_, hb12.setCell (p := ⟨g, k * 8 + 7, none⟩) (by show _ ≤ g; omega) _, fun _ => by rintro ad ⟨⟩; show _ ≤ g; omega⟩
  simp only [HN]
  exact (Sl.mod1 Acc.size HS.out HA.out (j := 7) (by omega) (put_cells a 7 (by omega) _) _ (by simp)).mono (by simp)

set_option maxHeartbeats 400000 in
theorem step_any (A : Option Addr) (n c : Nat) (l : List Acc) (k : Int) (w : World) (hs : Sl w w.heap.size 8 Acc.cells A n l) (hn : n ≤ 1000000) (hok : Ok 1000000 l) :
    Calls Try.prog 11 #[.slice A n c, .int .i64 k] w (GivesE (stepE l k) w) := by
  cases hk : inB n k with
  | true =>
    simp [inB] at hk
    obtain ⟨j, rfl⟩ := Int.eq_ofNat_of_zero_le hk.1
    rw [stepE, hs.len, inB_true hk.1 hk.2]
    exact step_in A n c l j w hs hn hok (by omega)
  | false =>
    rw [stepE, hs.len, hk]
    have HK := Lib.hid hk
    clear hk
    go_enter Try.func11, Try.ntmps11
    go_wp2_with fail
    refine (within_any A n c k w hn).mono ?_
    rintro e w1 ⟨rfl, hb1⟩
    rw [HK.out]
    go_wp2
    go_ret2
    exact ⟨none, 0, rfl, Sl.nil, hb1, fun h => absurd h (by decide)⟩

/-- The reference's Step. -/
theorem refstep_any (A : Option Addr) (n c : Nat) (l : List Acc) (k : Int) (w : World) (hs : Sl w w.heap.size 8 Acc.cells A n l) (hn : n ≤ 1000000) (hok : Ok 1000000 l) :
    Calls Try.prog 25 #[.slice A n c, .int .i64 k] w (GivesE (stepE l k) w) := by
  obtain ⟨i0, hi, hz0, hz1, hz2⟩ := info_parts CloneAcc.infoE
  have HL := Lib.hid hs.len
  have HOK := Lib.hid hok
  clear hok
  by_cases h0 : 0 ≤ k
  · by_cases h1 : k < n
    · rw [stepE, hs.len, inB_true h0 h1]
      obtain ⟨k, rfl⟩ := Int.eq_ofNat_of_zero_le h0
      have hsrc := Sl.src hs Acc.size
      obtain ⟨a, ha⟩ : ∃ a, l[k]? = some a := ⟨_, List.getElem?_eq_getElem (by rw [HL.out]; omega)⟩
      obtain ⟨ha0, ha1⟩ := HOK.out.at_ ha 7 (by omega)
      have HA := Lib.hid ha
      have HN : (stepA l k).length = n := (step_len l k).trans HL.out
      have hWb : Below w.heap.size w (w.alloc (.cells #[] 41)) := (by repeat (first | (with_reducible exact (Below.refl _ _)) | (with_reducible refine Below.drew ?_) | (with_reducible refine below_drewN ?_ _) | (with_reducible refine Below.setCell ?_ ?_ _; rotate_left; (first | omega | (simp <;> omega))) | (with_reducible refine Below.alloc ?_ ?_ _; rotate_left; (first | omega | (simp <;> omega)))))
      have hsrc := Sl.src (hs.below hWb) Acc.size
      have HS := Lib.hid hsrc
      have HB := Lib.hid hWb
      have hk : k < n := by omega
      clear hsrc ha hWb hs h0 h1
      go_enter Try.func25, Try.ntmps25
      go_wp2_with (at_builtin; refine wpList_append_any rfl _ _ 26 rfl w.heap.size 41 i0 _ 8 64 Try.underlying26 hi hz0 hz1 hz2 rfl (by decide) (.slice (some ⟨w.heap.size, 0, none⟩) 0 0) 0 [] rfl (World.ownsRow_made w #[] 0 (Nat.le_refl _) (by unfold maxLen; omega) rfl) A n c (l.flatMap Acc.cells) rfl HS.out.1 (by rw [flat_len Acc.size, HL.out]) HS.out.2 (acc_one l) (by unfold maxLen; omega) (by omega) (by simp) ?_; intro A1 c1 w1 hown hgr hA1; obtain ⟨g, hA, hg0, hg1, hfz, hs1⟩ := own_open hown Acc.size HL.out (by omega); subst hA; have c7 : w1.cell? ⟨g, k * 8 + 7, none⟩ = some (.int .i64 (a 7)) := (by have := sl_at hs1 HA.out (Acc.at_ a 7 (by omega)); rwa [Nat.zero_add] at this); have f7 := hfz (k * 8 + 7); have HS1 := Lib.hid hs1; clear hs1 hfz hA1 hown)
      go_ret2
      have hb1 : Below w.heap.size w w1 := HB.out.grown hgr (by simp) (fun j hj => by simp [Value.ownBlock] at hj; omega)
      refine ⟨some ⟨g, 0, none⟩, c1, by simp [HN], ?_, hb1.setCell (p := ⟨g, k * 8 + 7, none⟩) (by show _ ≤ g; omega) _, fun _ => by rintro ad ⟨⟩; show _ ≤ g; omega⟩
      simp only [if_true, Int.toNat_natCast, HN]
      exact (Sl.mod1 Acc.size HS1.out HA.out (j := 7) (by omega) (put_cells a 7 (by omega) _) _ (by simp)).mono (by simp)
    · rw [stepE, hs.len, inB_false (.inr (by omega))]
      go_enter Try.func25, Try.ntmps25
      go_wp2
      go_ret2
      exact ⟨none, 0, rfl, Sl.nil, Below.refl _ _, fun h => absurd h (by decide)⟩
  · rw [stepE, hs.len, inB_false (.inl (by omega))]
    go_enter Try.func25, Try.ntmps25
    go_wp2
    go_ret2
    exact ⟨none, 0, rfl, Sl.nil, Below.refl _ _, fun h => absurd h (by decide)⟩
end Go.Proofs.Ytignbncphdemlaa
