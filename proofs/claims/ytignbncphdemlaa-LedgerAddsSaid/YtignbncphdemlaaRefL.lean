/- The reference's Lose. -/
import Derived.Test.YtignbncphdemlaaJ
namespace Go.Proofs.Ytignbncphdemlaa
open Go.RowKit
set_option maxHeartbeats 1000000 in
theorem reflose_any (A : Option Addr) (n c : Nat) (l : List Acc) (k : Int) (B : Option Addr) (m d : Nat) (s : List Shr) (w : World) (hs : Sl w w.heap.size 8 Acc.cells A n l) (hr : Sl w w.heap.size 2 Shr.cells B m s) (hn : n ≤ 1000000) (hm : m ≤ 1000000) (hok : Ok 1000000 l) :
    Calls Try.prog 22 #[.slice A n c, .int .i64 k, .slice B m d] w (GivesE (loseE k l s) w) := by
  have HOK := Lib.hid hok
  have HL := Lib.hid hs.len
  have HM := Lib.hid hr.len
  have HSA := Lib.hid hs
  have HSS := Lib.hid hr
  clear hok hs hr
  go_enter Try.func22, Try.ntmps22
  go_wp2_with fail
  refine (moved_any A n c l (k) B m d s w HSA.out HSS.out hn hm HOK.out).mono ?_
  rintro e w1 ⟨A1, c1, rfl, hs1, hb1, hl1⟩
  have hz1 := hb1.size
  rcases lose_cases k l s with ⟨hf, he⟩ | ⟨hf, he⟩ | ⟨l', cz, rfl, hcz, hf, hst, hfl, he⟩
  · have HF := Lib.hid hf
    have HE := Lib.hid he
    clear hf he
    rw [HF.out] at hs1 hl1 ⊢
    go_wp2_with fail
    go_loopw [10] (fun i wr => i = .int .i64 0 ∧ wr = w1) (fun i _ => 0)
    case atStart => exact ⟨rfl, rfl⟩
    case round =>
      obtain ⟨rfl, rfl⟩ := hrel
      by_cases hm0 : 0 < m
      · go_wp2
        go_ret2
        rw [HE.out]
        exact ⟨A1, c1, rfl, Sl.nil, hb1, fun h => absurd h (by decide)⟩
      · obtain rfl : m = 0 := by omega
        go_wp2
        go_ret2
        rw [HE.out]
        exact ⟨A1, c1, rfl, Sl.nil, hb1, fun h => absurd h (by decide)⟩
  · have HF := Lib.hid hf
    have HE := Lib.hid he
    clear hf he
    rw [HF.out] at hs1 hl1 ⊢
    go_wp2_with fail
    go_loopw [10] (fun i wr => i = .int .i64 0 ∧ wr = w1) (fun i _ => 0)
    case atStart => exact ⟨rfl, rfl⟩
    case round =>
      obtain ⟨rfl, rfl⟩ := hrel
      by_cases hm0 : 0 < m
      · go_wp2
        go_ret2
        rw [HE.out]
        exact ⟨A1, c1, rfl, Sl.nil, hb1, fun h => absurd h (by decide)⟩
      · obtain rfl : m = 0 := by omega
        go_wp2
        go_ret2
        rw [HE.out]
        exact ⟨A1, c1, rfl, Sl.nil, hb1, fun h => absurd h (by decide)⟩
  · obtain ⟨hln, hok1, hbs⟩ := fly_inv hfl HOK.out
    have HF := Lib.hid hf
    have HE := Lib.hid he
    have HST := Lib.hid hst
    have HBS := Lib.hid hbs
    have HB0 := Lib.hid (show Bnd 1000000 l' from fun i a ha j hj => hok1.at_ ha j hj)
    clear hf he hst hbs hfl hok1
    rw [HF.out] at hs1 hl1 ⊢
    simp only at hs1 hl1 ⊢
    rw [hln, HL.out] at hs1 hl1 ⊢
    have HS1 := Lib.hid hs1
    have HLO := Lib.hid hl1
    clear hs1 hl1
    go_wp2_with fail
    go_loopw [10] (fun i wr => ∃ j : Nat, j ≤ m ∧ i = .int .i64 j ∧ Hid (Sl wr wr.heap.size 8 Acc.cells A1 n (addL (1 + cz) l' (s.take j))) ∧ Hid (Bnd (1000000 + j * 1000000) (addL (1 + cz) l' (s.take j))) ∧ Below w.heap.size w wr ∧ w1.heap.size ≤ wr.heap.size ∧ Hid (∀ g, 0 < n → A1 = some ⟨g, 0, none⟩ → ∀ j, wr.frozen? ⟨g, j, none⟩ = false)) (fun i _ => m - (intOf i).toNat)
    case atStart => exact ⟨0, Nat.zero_le _, rfl, by rw [List.take_zero]; exact HS1, by rw [List.take_zero]; show Hid (Bnd _ l'); simpa using HB0, hb1, Nat.le_refl _, Lib.hid (fun g h0 hA j => by obtain ⟨g', hA', _, _, hf⟩ := HLO.out h0; rw [hA'] at hA; injection hA with hA; injection hA with hA; subst hA; exact hf j)⟩
    case round =>
      obtain ⟨j, hj, rfl, hsl, hbd, hb, hzr, hfz⟩ := hrel
      have hzz := hb.size
      by_cases hlt : j < m
      · obtain ⟨x, hx⟩ : ∃ x, s[j]? = some x := ⟨_, List.getElem?_eq_getElem (by rw [HM.out]; exact hlt)⟩
        obtain ⟨sb, so, rfl, hlo, hat⟩ := HSS.out.at_ (by omega)
        have c0 : wr.cell? ⟨sb, so + j * 2, none⟩ = some (.int .i64 x.worker) := (belc hb hlo).trans (hat j x hx 0 _ rfl)
        have c1 : wr.cell? ⟨sb, so + j * 2 + 1, none⟩ = some (.int .i64 x.steps) := (belc hb hlo).trans (hat j x hx 1 _ rfl)
        obtain ⟨i0, i1⟩ := strange_in HST.out hx
        rw [HL.out] at i1
        obtain ⟨p, hp⟩ := Int.eq_ofNat_of_zero_le i0
        have hpn : p < n := by omega
        have hn0 : 0 < n := by omega
        obtain ⟨g, hA2, hg0, hg1, _⟩ := HLO.out hn0
        subst hA2
        have hll : (addL (1 + cz) l' (s.take j)).length = n := hsl.out.len
        obtain ⟨a, ha⟩ : ∃ a, (addL (1 + cz) l' (s.take j))[p]? = some a := ⟨_, List.getElem?_eq_getElem (by omega)⟩
        have df : wr.cell? ⟨g, p * 8 + (1 + cz), none⟩ = some (.int .i64 (a (1 + cz))) := by have := sl_at hsl.out ha (Acc.at_ a (1 + cz) (by omega)); rwa [Nat.zero_add] at this
        have ff := hfz.out g hn0 rfl (p * 8 + (1 + cz))
        have hgs : ¬ g = sb := by omega
        have hgr : g < wr.heap.size := by omega
        have hsr : sb < wr.heap.size := by omega
        obtain ⟨a0, a1⟩ := hbd.out p a ha (1 + cz) (by omega)
        obtain ⟨x0, x1⟩ := HBS.out j x hx
        have ha2 : a (1 + cz) ≤ 1000001000000 := by omega
        have hsn := addL_snoc (f := 1 + cz) (l := l') hx
        rw [show x.worker.toNat = p from by rw [hp]; rfl] at hsn
        have HSN := Lib.hid hsn
        have HP := Lib.hid hp
        have HAK := Lib.hid ha
        rw [hp] at c0 i1
        have hfin : ∀ (kk : Nat) (P : Addr), P = ⟨g, 0 + (p * 8 + (1 + cz)), none⟩ → Sl ((wr.drewN kk).setCell P (.int .i64 (a (1 + cz) + x.steps))) ((wr.drewN kk).setCell P (.int .i64 (a (1 + cz) + x.steps))).heap.size 8 Acc.cells (some ⟨g, 0, none⟩) n (addL (1 + cz) l' (s.take (j + 1))) := fun kk P hP => by
          have h1 : Sl (wr.drewN kk) (wr.drewN kk).heap.size 8 Acc.cells (some ⟨g, 0, none⟩) n (addL (1 + cz) l' (s.take j)) := hsl.out.up (below_drewN (Below.refl _ _) kk)
          rw [HSN.out]
          exact (Sl.mod1 (f := addF (1 + cz) x.steps) Acc.size h1 HAK.out (j := 1 + cz) (by omega) (put_cells a (1 + cz) (by omega) (a (1 + cz) + x.steps)) P hP).mono (by simp)
        have HFIN := Lib.hid hfin
        have HBN := Lib.hid (show Bnd (1000000 + ((j + 1 : Nat) : Int) * 1000000) (addL (1 + cz) l' (s.take (j + 1))) from by rw [HSN.out]; have := hbd.out.add x0 x1 p (1 + cz); rwa [show (1000000 : Int) + j * 1000000 + 1000000 = 1000000 + ((j + 1 : Nat) : Int) * 1000000 from by omega] at this)
        rw [show p * 8 + (1 + cz) = p * 8 + 1 + cz from by omega] at df ff
        clear hx hat ha i0 hp hfin hsn a1
        go_wp2
        go_region
        go_wp2
        all_goals
          refine ⟨⟨j + 1, by omega, by go_num, Lib.hid (HFIN.out _ _ (by simp)), HBN, (by repeat (first | (with_reducible exact hb) | (with_reducible refine Below.drew ?_) | (with_reducible refine below_drewN ?_ _) | (with_reducible refine Below.setCell ?_ ?_ _; rotate_left; (first | omega | (simp <;> omega))) | (with_reducible refine Below.alloc ?_ ?_ _; rotate_left; (first | omega | (simp <;> omega))))), by simp; omega, Lib.hid (fun g1 h0 hA j => by injection hA with hA; injection hA with hA; subst hA; exact (World.frozen?_setCell _ _ _ _).trans (hfz.out g hn0 rfl j))⟩, by simp [intOf]; omega⟩
      · obtain rfl : j = m := by omega
        have htk : s.take j = s := List.take_of_length_le (by rw [HM.out]; exact Nat.le_refl _)
        rw [htk] at hsl
        have hll : (addL (1 + cz) l' s).length = n := hsl.out.len
        go_wp2
        go_ret2
        rw [HE.out]
        refine ⟨A1, c1, by simp only [hll]; rfl, by simp only [hll]; exact hsl.out, hb, fun hp ad h => ?_⟩
        simp only [hll] at hp
        obtain ⟨g, rfl, hg0, _⟩ := HLO.out hp
        injection h with h
        subst h
        exact hg0
end Go.Proofs.Ytignbncphdemlaa
