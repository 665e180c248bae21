/- The reference's moved. -/
import Derived.Test.YtignbncphdemlaaF
namespace Go.Proofs.Ytignbncphdemlaa
open Go.RowKit

def fly (k : Int) (a : Acc) : Acc := put a 7 (a 7 - k)
def flyL : List Acc → List Shr → Option (List Acc)
  | l, [] => some l
  | l, x :: s => match l[x.worker.toNat]? with
    | none => none
    | some a => if 0 ≤ x.steps ∧ x.steps ≤ a 7 then flyL (l.modify x.worker.toNat (fly x.steps)) s else none
def flyE (c : Int) (l : List Acc) (s : List Shr) : List Acc × Int := if strange l.length s = true then ([], 2) else if 0 ≤ c ∧ c < 6 then resE (flyL l s) else ([], 2)
theorem flyL_step {l : List Acc} {x : Shr} {s : List Shr} {a : Acc} (h : l[x.worker.toNat]? = some a) (h0 : 0 ≤ x.steps) (h1 : x.steps ≤ a 7) : flyL l (x :: s) = flyL (l.modify x.worker.toNat (fly x.steps)) s := by
  simp [flyL, h, h0, h1]
theorem flyL_stop {l : List Acc} {x : Shr} {s : List Shr} {a : Acc} (h : l[x.worker.toNat]? = some a) (h0 : ¬ (0 ≤ x.steps ∧ x.steps ≤ a 7)) : flyL l (x :: s) = none := by
  rw [flyL, h]
  simp only [if_neg h0]
theorem fly_ok {k T : Int} {a : Acc} (h0 : 0 ≤ k) (h1 : k ≤ a 7) (h : OkA T a) : OkA T (fly k a) := by
  refine ⟨fun j hj => ?_, ?_⟩
  · unfold fly
    by_cases h7 : j = 7
    · subst h7; rw [put_same]; omega
    · rw [put_other _ _ _ _ h7]; exact h.1 j hj
  · have := h.2
    simp only [tot, fly, put] at *
    simp
    omega
theorem strange_hit {n : Nat} {s : List Shr} {i : Nat} {x : Shr} (hx : s[i]? = some x) (h : ¬ (0 ≤ x.worker ∧ x.worker < n)) : strange n s = true := by
  rw [strange, List.any_eq_true]
  refine ⟨x, List.mem_of_getElem? hx, ?_⟩
  rw [inB_false (by omega)]; rfl
theorem strange_no {n : Nat} {s : List Shr} (h : ∀ (i : Nat) (x : Shr), s[i]? = some x → 0 ≤ x.worker ∧ x.worker < n) : strange n s = false := by
  rw [strange, List.any_eq_false]
  intro x hx
  obtain ⟨i, hi⟩ := List.getElem?_of_mem hx
  have := h i x hi
  simp [inB, this]

/-- As GivesE, and the accounts may be written. -/
def GivesW (r : List Acc × Int) (w : World) (e : Ending) (w' : World) : Prop := ∃ A' c', e = .returned (.tuple #[.slice A' r.1.length c', .int .i64 r.2]) ∧ Sl w' w'.heap.size 8 Acc.cells A' r.1.length r.1 ∧ Below w.heap.size w w' ∧ (0 < r.1.length → ∃ g, A' = some ⟨g, 0, none⟩ ∧ w.heap.size ≤ g ∧ g < w'.heap.size ∧ ∀ j, w'.frozen? ⟨g, j, none⟩ = false)
set_option maxHeartbeats 1000000 in
theorem moved_any (A : Option Addr) (n c : Nat) (l : List Acc) (k : Int) (B : Option Addr) (m d : Nat) (s : List Shr) (w : World) (hs : Sl w w.heap.size 8 Acc.cells A n l) (hr : Sl w w.heap.size 2 Shr.cells B m s) (hn : n ≤ 1000000) (hm : m ≤ 1000000) (hok : Ok 1000000 l) :
    Calls Try.prog 41 #[.slice A n c, .int .i64 k, .slice B m d] w (GivesW (flyE k l s) w) := by
  obtain ⟨i0, hi, hz0, hz1, hz2⟩ := info_parts CloneAcc.infoE
  have HL := Lib.hid hs.len
  have HM := Lib.hid hr.len
  have HOK := Lib.hid hok
  have HSA := Lib.hid hs
  have HSS := Lib.hid hr
  clear hok hs hr
  go_enter Try.func41, Try.ntmps41
  go_wp2_with fail
  go_loopw [8] (fun i wr => ∃ q : Nat, q ≤ m ∧ i = .int .i64 q ∧ Hid (∀ (j : Nat) (x : Shr), j < q → s[j]? = some x → 0 ≤ x.worker ∧ x.worker < n) ∧ Below w.heap.size w wr) (fun i _ => m - (intOf i).toNat)
  case atStart => exact ⟨0, Nat.zero_le _, rfl, Lib.hid (fun j y hj => absurd hj (by omega)), Below.refl _ _⟩
  case round =>
    obtain ⟨q, hq, rfl, hno, hb⟩ := hrel
    have hzz := hb.size
    by_cases hlt : q < m
    · obtain ⟨ab, ao, rfl, hlo, hat⟩ := HSS.out.at_ (by omega)
      obtain ⟨x, hx⟩ : ∃ x, s[q]? = some x := ⟨_, List.getElem?_eq_getElem (by rw [HM.out]; exact hlt)⟩
      have c0 : wr.cell? ⟨ab, ao + q * 2, none⟩ = some (.int .i64 x.worker) := (belc hb hlo).trans (hat q x hx 0 _ rfl)
      have HX := Lib.hid hx
      clear hx hat
      by_cases h0 : 0 ≤ x.worker
      · by_cases h1 : x.worker < n
        · go_wp2
          go_roundw
          case rel =>
            refine ⟨q + 1, by omega, by go_num, Lib.hid (fun j y hj hy => ?_), hb⟩
            by_cases hjm : j = q
            · subst hjm; rw [HX.out] at hy; injection hy with hy; subst hy; exact ⟨h0, h1⟩
            · exact hno.out j y (by omega) hy
          case measure => simp [intOf]; omega
        · have HE := Lib.hid (show flyE k l s = ([], 2) from by rw [flyE, HL.out, strange_hit HX.out (by omega), if_pos rfl])
          go_wp2
          go_ret2
          rw [HE.out]
          exact ⟨none, 0, rfl, Sl.nil, hb, fun h => absurd h (by decide)⟩
      · have HE := Lib.hid (show flyE k l s = ([], 2) from by rw [flyE, HL.out, strange_hit HX.out (by omega), if_pos rfl])
        go_wp2
        go_ret2
        rw [HE.out]
        exact ⟨none, 0, rfl, Sl.nil, hb, fun h => absurd h (by decide)⟩
    · obtain rfl : q = m := by omega
      have HNO := Lib.hid (show ∀ (j : Nat) (x : Shr), s[j]? = some x → 0 ≤ x.worker ∧ x.worker < n from fun j x hx => hno.out j x (by have := (List.getElem?_eq_some_iff.1 hx).1; rw [HM.out] at this; exact this) hx)
      have HST := Lib.hid (strange_no HNO.out)
      by_cases hk : 0 ≤ k ∧ k < 6
      · have HE := Lib.hid (show flyE k l s = resE (flyL l s) from by rw [flyE, HL.out, HST.out, if_neg (by decide), if_pos hk])
        obtain ⟨hk0, hk1⟩ := hk
        have hsW := HSA.out.below (hb.alloc hzz (.cells #[] 41))
        have hsrc := Sl.src hsW Acc.size
        have HS := Lib.hid hsrc
        clear hsrc hsW hno
        go_wp2_with (at_builtin; refine wpList_append_any rfl _ _ 26 rfl w.heap.size 41 i0 _ 8 64 Try.underlying26 hi hz0 hz1 hz2 rfl (by decide) (.slice (some ⟨wr.heap.size, 0, none⟩) 0 0) 0 [] rfl (World.ownsRow_made wr #[] 0 hzz (by unfold maxLen; omega) rfl) A n c (l.flatMap Acc.cells) rfl HS.out.1 (by rw [flat_len Acc.size, HL.out]) HS.out.2 (acc_one l) (by unfold maxLen; omega) (by omega) (by simp; omega) ?_; intro A1 c1 w1 hown hgr hA1; have HG1 := Lib.hid (fun h0 : 0 < n => own_open hown Acc.size HL.out h0); rw [Nat.zero_add, List.nil_append] at hown; have HS1 := Lib.hid (Sl.of_own Acc.size HL.out hown); have hb1 : Below w.heap.size w w1 := (hb.alloc hzz _).grown hgr (by simp; omega) (fun j hj => by simp [Value.ownBlock] at hj; omega); clear hown hgr hA1)
        go_loopw [10] (fun i wr => ∃ (j : Nat) (lk : List Acc), j ≤ q ∧ i = .int .i64 j ∧ Hid (flyL l s = flyL lk (s.drop j)) ∧ Hid (Ok 1000000 lk) ∧ Hid (Sl wr wr.heap.size 8 Acc.cells A1 n lk) ∧ Below w.heap.size w wr ∧ w1.heap.size ≤ wr.heap.size ∧ Hid (∀ g, 0 < n → A1 = some ⟨g, 0, none⟩ → ∀ j, wr.frozen? ⟨g, j, none⟩ = false)) (fun i _ => q - (intOf i).toNat)
        case atStart => exact ⟨0, l, Nat.zero_le _, rfl, Lib.hid (by rw [List.drop_zero]), HOK, HS1, hb1, Nat.le_refl _, Lib.hid (fun g h0 hA j => by obtain ⟨g', hA', _, _, hf, _⟩ := HG1.out h0; rw [hA'] at hA; injection hA with hA; injection hA with hA; subst hA; exact hf j)⟩
        case round =>
          obtain ⟨j, lk, hj, rfl, heq, hok, hsl, hb2, hzr, hfz⟩ := hrel
          have hz2' := hb2.size
          have hln : lk.length = n := hsl.out.len
          by_cases hlt2 : j < q
          · obtain ⟨x, hx⟩ : ∃ x, s[j]? = some x := ⟨_, List.getElem?_eq_getElem (by rw [HM.out]; exact hlt2)⟩
            obtain ⟨sb, so, rfl, hlo, hat⟩ := HSS.out.at_ (by omega)
            have c0 : wr.cell? ⟨sb, so + j * 2, none⟩ = some (.int .i64 x.worker) := (belc hb2 hlo).trans (hat j x hx 0 _ rfl)
            have c1 : wr.cell? ⟨sb, so + j * 2 + 1, none⟩ = some (.int .i64 x.steps) := (belc hb2 hlo).trans (hat j x hx 1 _ rfl)
            obtain ⟨i0, i1⟩ := HNO.out j x hx
            obtain ⟨p, hp⟩ := Int.eq_ofNat_of_zero_le i0
            have hpn : p < n := by omega
            have hn0 : 0 < n := by omega
            obtain ⟨g, hA2, hg0, hg1, _⟩ := HG1.out hn0
            subst hA2
            obtain ⟨a, ha⟩ : ∃ a, lk[p]? = some a := ⟨_, List.getElem?_eq_getElem (by omega)⟩
            have d7 : wr.cell? ⟨g, p * 8 + 7, none⟩ = some (.int .i64 (a 7)) := by have := sl_at hsl.out ha (Acc.at_ a 7 (by omega)); rwa [Nat.zero_add] at this
            have f7 := hfz.out g hn0 rfl (p * 8 + 7)
            have hgs : ¬ g = sb := by omega
            have hgr : g < wr.heap.size := by omega
            have hsr : sb < wr.heap.size := by omega
            obtain ⟨a70, a71⟩ := hok.out.at_ ha 7 (by omega)
            have hdr := drop_at hx
            have HX := Lib.hid hx
            have HP := Lib.hid hp
            have HAK := Lib.hid ha
            have HDR := Lib.hid hdr
            rw [hp] at c0 i1
            clear hx hat ha hdr i0 hp
            have hqt : x.worker.toNat = p := by rw [HP.out]; rfl
            have HQT := Lib.hid hqt
            clear hqt
            by_cases hneg : x.steps < 0
            · have HR := Lib.hid (show flyL l s = none from by rw [heq.out, HDR.out]; exact flyL_stop (by rw [HQT.out]; exact HAK.out) (by omega))
              go_wp2
              go_quiet (fail)
              go_wp2
              go_ret2
              rw [HE.out, HR.out]
              exact ⟨none, 0, rfl, Sl.nil, (by repeat (first | (with_reducible exact hb2) | (with_reducible refine Below.drew ?_) | (with_reducible refine below_drewN ?_ _) | (with_reducible refine Below.setCell ?_ ?_ _; rotate_left; (first | omega | (simp <;> omega))) | (with_reducible refine Below.alloc ?_ ?_ _; rotate_left; (first | omega | (simp <;> omega))))), fun h => absurd h (by decide)⟩
            · by_cases hbig : x.steps ≤ a 7
              · have HR := Lib.hid (flyL_step (s := s.drop (j + 1)) (by rw [HQT.out]; exact HAK.out) (show 0 ≤ x.steps by omega) hbig)
                have hfin : ∀ (kk : Nat) (P : Addr), P = ⟨g, 0 + (p * 8 + 7), none⟩ → Sl ((wr.drewN kk).setCell P (.int .i64 (a 7 - x.steps))) ((wr.drewN kk).setCell P (.int .i64 (a 7 - x.steps))).heap.size 8 Acc.cells (some ⟨g, 0, none⟩) n (lk.modify p (fly x.steps)) := fun kk P hP => by
                  have h1 : Sl (wr.drewN kk) (wr.drewN kk).heap.size 8 Acc.cells (some ⟨g, 0, none⟩) n lk := hsl.out.up (below_drewN (Below.refl _ _) kk)
                  exact (Sl.mod1 (f := fly x.steps) Acc.size h1 HAK.out (j := 7) (by omega) (put_cells a 7 (by omega) (a 7 - x.steps)) P hP).mono (by simp)
                have HFIN := Lib.hid hfin
                have HNX := Lib.hid (show flyL l s = flyL (lk.modify p (fly x.steps)) (s.drop (j + 1)) from by rw [heq.out, HDR.out, HR.out, HQT.out])
                have HOK2 := Lib.hid (hok.out.modify (k := p) (f := fly x.steps) (Int.le_refl _) (fun b hb hbo => by rw [HAK.out] at hb; injection hb with hb; subst hb; exact fly_ok (by omega) hbig hbo))
                clear hfin
                go_wp2
                go_quiet (fail)
                go_wp2
                go_region
                go_wp2
                all_goals
                  refine ⟨⟨j + 1, lk.modify p (fly x.steps), by omega, by go_num, HNX, HOK2, Lib.hid (HFIN.out _ _ (by simp)), (by repeat (first | (with_reducible exact hb2) | (with_reducible refine Below.drew ?_) | (with_reducible refine below_drewN ?_ _) | (with_reducible refine Below.setCell ?_ ?_ _; rotate_left; (first | omega | (simp <;> omega))) | (with_reducible refine Below.alloc ?_ ?_ _; rotate_left; (first | omega | (simp <;> omega))))), by simp; omega, Lib.hid (fun g1 h0 hA j => by injection hA with hA; injection hA with hA; subst hA; rw [World.frozen?_setCell]; exact hfz.out g hn0 rfl j)⟩, by simp [intOf]; omega⟩
              · have HR := Lib.hid (show flyL l s = none from by rw [heq.out, HDR.out]; exact flyL_stop (by rw [HQT.out]; exact HAK.out) (by omega))
                go_wp2
                go_quiet (fail)
                go_wp2
                go_ret2
                rw [HE.out, HR.out]
                exact ⟨none, 0, rfl, Sl.nil, (by repeat (first | (with_reducible exact hb2) | (with_reducible refine Below.drew ?_) | (with_reducible refine below_drewN ?_ _) | (with_reducible refine Below.setCell ?_ ?_ _; rotate_left; (first | omega | (simp <;> omega))) | (with_reducible refine Below.alloc ?_ ?_ _; rotate_left; (first | omega | (simp <;> omega))))), fun h => absurd h (by decide)⟩
          · obtain rfl : j = q := by omega
            have HR := Lib.hid (show flyL l s = some lk from by rw [heq.out, List.drop_eq_nil_of_le (by rw [HM.out]; exact Nat.le_refl _)]; rfl)
            go_wp2
            go_ret2
            rw [HE.out, HR.out]
            refine ⟨A1, c1, by simp only [resE, hln]; rfl, by simp only [resE, hln]; exact hsl.out, hb2, fun hp => ?_⟩
            simp only [resE, hln] at hp
            obtain ⟨g, rfl, hg0, hg1, _⟩ := HG1.out hp
            exact ⟨g, rfl, hg0, by omega, hfz.out g hp rfl⟩
      · have HE := Lib.hid (show flyE k l s = ([], 2) from by rw [flyE, HL.out, HST.out, if_neg (by decide), if_neg hk])
        by_cases hk0 : k < 0
        · go_wp2
          go_ret2
          rw [HE.out]
          exact ⟨none, 0, rfl, Sl.nil, hb, fun h => absurd h (by decide)⟩
        · have hk6 : 6 ≤ k := by omega
          go_wp2
          go_ret2
          rw [HE.out]
          exact ⟨none, 0, rfl, Sl.nil, hb, fun h => absurd h (by decide)⟩
end Go.Proofs.Ytignbncphdemlaa
