/- The scenes of the ledger's laws: made. -/
import Derived.Test.YtignbncphdemlaaV
import Derived.Test.YtignbncphdemlaaRefK
import Derived.Test.YtignbncphdemlaaRefL
import Derived.Test.YtignbncphdemlaaE
import Derived.Deep.RegionHeld3
namespace Go.Proofs.Ytignbncphdemlaa
open Go.RowKit

theorem infoJ : (Try.prog.info? 31).map (fun i => (i.zero, i.size, i.bytes)) = some (some (.slice none 0 0), 1, 24) := by kernel_rfl
theorem newref_any (n : Nat) (w : World) (h1 : 1 ≤ n) (h8 : n ≤ 8) :
    Calls Try.prog 26 #[.int .i64 n] w (GivesA (List.replicate n zero) w) := by
  obtain ⟨i0, hi, hz0, hz1, hz2⟩ := info_parts CloneAcc.infoE
  go_enter Try.func26, Try.ntmps26
  go_wp2_with (at_make; refine wpList_make_full _ rfl _ _ 26 rfl w.heap.size 41 i0 _ 8 Try.underlying26 hi hz0 hz1 .i64 .i64 n n n rfl rfl rfl rfl (by rw [hz2]; omega) (by unfold maxLen; omega) (Nat.le_refl _) ?_; intro w1 hown1 hgr1)
  go_ret2
  have hrow : (madeCells (Value.cells (.agg #[.int .i64 0, .int .i64 0, .int .i64 0, .int .i64 0, .int .i64 0, .int .i64 0, .int .i64 0, .int .i64 0])) (n * 8)).toList = (List.replicate n zero).flatMap Acc.cells := by
    rw [rep_cells]
    exact made_same 8 (n * 8) (by omega) _
  rw [hrow] at hown1
  refine ⟨some ⟨w.heap.size, 0, none⟩, n, by rw [List.length_replicate]; rfl, ?_, below_of_grown hgr1 (Nat.le_refl _) (by intro k hk; cases hk), fun _ => by rintro ad ⟨⟩; exact Nat.le_refl _⟩
  rw [List.length_replicate]
  exact Sl.of_own Acc.size (List.length_replicate ..) hown1

theorem wrap_small {x : Int} (h0 : -9223372036854775808 ≤ x) (h1 : x ≤ 9223372036854775807) : IntKind.i64.wrap x = x := by rw [IntKind.wrap_i64]; omega
/-- What made leaves. -/
def Made (d : Nat) (w : World) (e : Ending) (w' : World) : Prop := ∃ (n : Nat) (A : Option Addr) (c : Nat) (l : List Acc) (JA : Option Addr) (jc : Nat) (js : List Job),
  e = .returned (.tuple #[.slice A n c, .slice JA js.length jc]) ∧ 1 ≤ n ∧ n ≤ 4 ∧ js.length ≤ 30 ∧ Hid (JInv n 30 l js) ∧ Hid (Lx w' d (blkOf JA) 8 Acc.cells A n l) ∧ Hid (Row w' w.heap.size 1 JA js.length jc (js.flatMap Job.cells)) ∧ Hid (Jobs w' d (blkOf JA) n 30 js) ∧ Thrown w d w'

set_option maxRecDepth 100000 in
set_option maxHeartbeats 4000000 in
theorem made_any (d : Nat) (w : World) (hD : Dice w d) : Calls Try.prog 19 #[.pointer (some ⟨d, 0, none⟩)] w (Made d w) := by
  obtain ⟨i0, hi, iz0, iz1, iz2⟩ := info_parts infoJ
  have hdw := hD.lt
  go_enter Try.func19, Try.ntmps19
  go_wp2_with fail
  refine (range_any d 1 4 w hD (by omega) (by omega)).mono ?_
  rintro e w3 ⟨n, hn1, hn4, rfl, ht3, hz3⟩
  go_wp2_with fail
  refine (newref_any n w3 hn1 (by omega)).mono ?_
  rintro e w4 ⟨A, c, rfl, hs4, hb4, hlo4⟩
  have hD4 := ht3.dice.below hb4
  have ht4 : Thrown w d w4 := ht3.trans (.of_below ht3.dice hb4)
  rw [List.length_replicate] at hs4 hlo4 ⊢
  have hL4 : Lx w4 d none 8 Acc.cells A n (List.replicate n zero) := Lx.fresh hs4 ht3.dice.lt (fun g h => by cases h) hlo4
  go_wp2_with fail
  refine (pick_any d 30 w4 hD4 (by omega) (by omega)).mono ?_
  rintro e w5 ⟨r, hr, rfl, ht5, hz5⟩
  have HL5 := Lib.hid (hL4.thrown ht5)
  have HT5 := Lib.hid (ht4.trans ht5)
  clear hL4 hs4 hlo4 hD4 hD ht3 ht4 ht5 hz3 hz5
  go_wp2_with fail
  go_loopw [4, 6, 7] (fun s4 s6 s7 wr => ∃ (q k : Nat) (A : Option Addr) (c : Nat) (JA : Option Addr) (jn jc : Nat) (l : List Acc) (js : List Job), q + k ≤ 30 ∧ s7 = .int .i64 k ∧ s4 = .slice A n c ∧ s6 = .slice JA jn jc ∧ jn ≤ q ∧ Hid (js.length = jn) ∧ Hid (JInv n q l js) ∧ Hid (Lx wr d (blkOf JA) 8 Acc.cells A n l) ∧ Hid (Row wr w.heap.size 1 JA jn jc (js.flatMap Job.cells)) ∧ Hid (Jobs wr d (blkOf JA) n q js) ∧ Hid (Thrown w d wr)) (fun _ _ k _ => (intOf k).toNat)
  case atStart => exact ⟨0, r, A, c, none, 0, 0, _, [], by omega, rfl, rfl, rfl, Nat.le_refl _, Lib.hid rfl, Lib.hid (jinv_zero n), HL5, Lib.hid Row.nil, Lib.hid (fun j hj => by simp at hj), HT5⟩
  case round =>
    obtain ⟨q, k, A, c, JA, jn, jc, l, js, hqk, rfl, rfl, rfl, hjn, hjl, hI, hL, hR, hJ, hT⟩ := hrel
    by_cases hk : 0 < k
    · go_wp2_with fail
      refine (pick_any d 6 wr hT.out.dice (by omega) (by omega)).mono ?_
      rintro e x1 ⟨p, hp, rfl, t1, y1⟩
      have T1 := Lib.hid (hT.out.trans t1)
      have L1 := Lib.hid (hL.out.thrown t1)
      have J1 := Lib.hid (hJ.out.thrown t1)
      have hjx : ∀ g, blkOf JA = some g → w.heap.size ≤ g := fun g hg => (hR.out.block hg).1
      have R1 := Lib.hid (hR.out.kept t1.grown (fun g hg e => by have := hjx g hg; injection e with e; omega))
      have HJX := Lib.hid hjx
      have zw : w.heap.size ≤ x1.heap.size := T1.out.size
      clear t1 hL hJ hR hT hjx
      by_cases hp0 : p = 0
      · subst hp0
        have b2 : Below x1.heap.size x1 (x1.alloc (.cells #[.slice none 0 0] 31)) := (by repeat (first | (with_reducible exact (Below.refl _ _)) | (with_reducible refine Below.drew ?_) | (with_reducible refine below_drewN ?_ _) | (with_reducible refine Below.setCell ?_ ?_ _; rotate_left; (first | omega | (simp <;> omega))) | (with_reducible refine Below.alloc ?_ ?_ _; rotate_left; (first | omega | (simp <;> omega)))))
        have R2 := Lib.hid (R1.out.below b2)
        have L2 := Lib.hid (L1.out.below b2)
        have J2 := Lib.hid (J1.out.below b2)
        have T2 := Lib.hid (T1.out.trans (.of_below T1.out.dice b2))
        go_wp2_with (at_builtin; refine wpList_append_row rfl _ _ 47 rfl w.heap.size 31 i0 _ 1 24 Try.underlying47 hi iz0 iz1 iz2 rfl (by decide) JA jn jc (js.flatMap Job.cells) (by simp [Act.eval]) R2.out (some ⟨x1.heap.size, 0, none⟩) 1 1 [.slice none 0 0] (by simp [Act.eval]) (by intro h; cases h) rfl (fun ad h j' u hu => by injection h with h; subst h; rw [Addr.add_lit, cell_new _ _ _ _ _ rfl, Nat.zero_add, ← Array.getElem?_toList]; exact hu) (by simp [Value.oneCell']) (by unfold maxLen; omega) (by omega) (by simp; omega) ?_; intro A3 c3 x3 row3 gr3 or3; have L3 := Lib.hid (L2.out.grown gr3 or3); have J3 := Lib.hid (J2.out.grown gr3 or3); have T3 := Lib.hid (T2.out.grow hdw gr3 HJX.out); have R3 := Lib.hid row3; clear row3 gr3 or3)
        go_roundw
        case rel => exact ⟨q + 1, k - 1, A, c, A3, jn + 1, c3, l, js ++ [⟨none, 0, 0, []⟩], by omega, by go_num, rfl, rfl, by omega, Lib.hid (by rw [List.length_append, hjl.out]; rfl), Lib.hid (hI.out.nil.mono (by omega)), L3, Lib.hid (by have := R3.out; simpa [Job.cells] using this), Lib.hid ((J3.out.mono (by omega)).snoc fair_nil), T3⟩
        case measure => simp [intOf]; omega
      · by_cases hj0 : 0 < jn
        · by_cases hp1 : p = 1
          · subst hp1
            go_wp2_with fail
            refine (pick_any d jn x1 T1.out.dice hj0 (by omega)).mono ?_
            rintro e x2 ⟨i, hi2, rfl, t2, y2⟩
            have T2 := Lib.hid (T1.out.trans t2)
            have L2 := Lib.hid (L1.out.thrown t2)
            have J2 := Lib.hid (J1.out.thrown t2)
            have R2 := Lib.hid (R1.out.kept t2.grown (fun g hg e => by have := HJX.out g hg; injection e with e; omega))
            obtain ⟨j, hj⟩ : ∃ j, js[i]? = some j := ⟨_, List.getElem?_eq_getElem (by rw [hjl.out]; exact hi2)⟩
            have hmem := List.mem_of_getElem? hj
            obtain ⟨g, off, hJA⟩ : ∃ g off, JA = some ⟨g, off, none⟩ := by
              cases JA with
              | none => have := R2.out.nul rfl; have := R2.out.le; omega
              | some ad => obtain ⟨g, off, rfl, _⟩ := R2.out.at_ _ rfl; exact ⟨g, off, rfl⟩
            subst hJA
            obtain ⟨g', off', eg, hg0, hg1, hcell, hroom⟩ := R2.out.at_ _ rfl
            injection eg with eg eo
            subst eg eo
            have cj : x2.cell? ⟨g, off + i, none⟩ = some (.slice j.A j.n j.c) := hcell i _ (job_at hj)
            obtain ⟨F1, F2, F3, F4, F5⟩ := J2.out j hmem
            have FS := Lib.hid F1.sl
            have HJ := Lib.hid hj
            have jn30 : j.n ≤ 30 := by omega
            have hjc : jn ≤ jc := R2.out.le
            clear F1 F2 F3 F5 t2 L1 J1 R1 T1 hcell hroom hj
            go_wp2_with fail
            refine (refkeep_any A n c l j.A j.n j.c j.s x2 L2.out.sl FS.out (by omega) (by omega) (hI.out.ok.le (by omega))).mono ?_
            rw [hI.out.move HJ.out (by omega)]
            rintro e x3 ⟨A3, c3, rfl, s3, b3, lo3⟩
            simp only [mvAll_len, hI.out.len] at s3 lo3 ⊢
            have L3 := Lib.hid (Lx.fresh s3 T2.out.dice.lt (fun g hg => (R2.out.block hg).2) lo3)
            have J3 := Lib.hid (J2.out.below b3)
            have RR := Lib.hid (R2.out.below b3)
            have T3 := Lib.hid (T2.out.trans (.of_below T2.out.dice b3))
            have ZW : w.heap.size ≤ x3.heap.size := T3.out.size
            clear s3 lo3 b3 cj L2 J2 R2 T2 FS
            have hic : i ≤ jc := by omega
            have hic2 : (i : Int) ≤ (jc : Int) := by omega
            have hi1 : i + 1 ≤ jn := by omega
            have hi2' : (i : Int) + 1 ≤ (jn : Int) := by omega
            have hii : (i : Int) ≤ (i : Int) + 1 := by omega
            have hjc0 : ¬ jc = 0 := by omega
            have hi0' : (0 : Int) ≤ (i : Int) + 1 := by omega
            have htn : ((i : Int) + 1).toNat = i + 1 := by omega
            have hwr : IntKind.i64.wrap ((i : Int) + 1) = (i : Int) + 1 := wrap_small (by omega) (by omega)
            have hbA : Below x3.heap.size x3 ((x3.alloc (.cells #[] 31)).drew) := ((by repeat (first | (with_reducible exact (Below.refl _ _)) | (with_reducible refine Below.drew ?_) | (with_reducible refine below_drewN ?_ _) | (with_reducible refine Below.setCell ?_ ?_ _; rotate_left; (first | omega | (simp <;> omega))) | (with_reducible refine Below.alloc ?_ ?_ _; rotate_left; (first | omega | (simp <;> omega))))))
            have hzA : ((x3.alloc (.cells #[] 31)).drew).heap.size = x3.heap.size + 1 := by show (x3.alloc _).heap.size = _; simp
            have HE := Lib.hid (show Row ((x3.alloc (.cells #[] 31)).drew) w.heap.size 1 (some ⟨x3.heap.size, 0, none⟩) 0 0 [] from ⟨rfl, Nat.le_refl _, fun _ => rfl, fun ad h => by injection h with h; subst h; exact ⟨_, _, rfl, ZW, by rw [hzA]; omega, fun j u hu => by simp at hu, fun j hj => by omega⟩⟩)
            have HTL := Lib.hid (show ((js.take i).flatMap Job.cells).length = i * 1 from by rw [flat_len Job.size, List.length_take, hjl.out]; omega)
            have HRA := Lib.hid (RR.out.below hbA)
            have HS1 := Lib.hid (show ∀ ad, some (⟨g, off, none⟩ : Addr) = some ad → ∀ (j : Nat) (u : Value), ((js.take i).flatMap Job.cells)[j]? = some u → ((x3.alloc (.cells #[] 31)).drew).cell? (ad.add j) = some u from fun ad h j u hu => by
              injection h with h
              subst h
              rw [Addr.add_lit]
              obtain ⟨g', off', e, _, _, hc, _⟩ := HRA.out.at_ _ rfl
              injection e with e1 e2
              subst e1 e2
              have := flat_take Job.size js i
              rw [Nat.mul_one] at this
              rw [← this, List.getElem?_take] at hu
              split at hu
              · exact hc j u hu
              · cases hu)
            have HNX := Lib.hid (hI.out.drop HJ.out (f := 0) (by omega))
            have HSUB := Lib.hid (show ∀ x ∈ js.take i ++ js.drop (i + 1), x ∈ js from fun x hx => by
              rcases List.mem_append.1 hx with h1 | h1
              · exact List.mem_of_mem_take h1
              · exact List.mem_of_mem_drop h1)
            by_cases hcap : jc = i + 1
            · obtain rfl : jn = i + 1 := by omega
              subst hcap
              have hdr : js.drop (i + 1) = [] := List.drop_eq_nil_of_le (by rw [hjl.out]; exact Nat.le_refl _)
              rw [hdr] at HNX HSUB
              go_wp2
              go_region_law (first
                | (refine step_append_row rfl (.tmp 75) (.tmp 78) 47 rfl w.heap.size 31 i0 _ 1 24 Try.underlying47 hi iz0 iz1 iz2 rfl (by decide) (some ⟨x3.heap.size, 0, none⟩) 0 0 [] (by simp [Act.eval]) HE.out (some ⟨g, off, none⟩) i (i + 1) ((js.take i).flatMap Job.cells) (by simp [Act.eval]) (by intro h; cases h) HTL.out HS1.out (job_one _) (by unfold maxLen; omega) (by omega) (by rw [hzA]; omega) ?_; intro A5 c5 x5 row5 gr5 or5; have hb5 : Below x3.heap.size x3 x5 := hbA.grown gr5 (by rw [hzA]; omega) (fun g hg => by injection hg with hg; have hg' : x3.heap.size = g := hg; omega); have hx5 : ∀ g, blkOf A5 = some g → x3.heap.size ≤ g := (fun g hg => by rcases or5 g hg with h | h; (injection h with h; have h' : x3.heap.size = g := h; omega); (rw [hzA] at h; omega)))
                | (refine step_append_row rfl (.tmp 79) (.tmp 83) 47 rfl w.heap.size 31 i0 _ 1 24 Try.underlying47 hi iz0 iz1 iz2 rfl (by decide) A5 (0 + i) c5 ([] ++ (js.take i).flatMap Job.cells) (by simp [Act.eval]) row5 (some ⟨g, off, none⟩) (0) (0) ([]) (by simp [Act.eval]) (by intro h; cases h) (rfl) (fun ad h j u hu => by simp at hu) (by simp) (by unfold maxLen; omega) (by omega) (by have := hb5.size; omega) ?_; intro A6 c6 x6 row6 gr6 or6; have hb6 : Below x3.heap.size x3 x6 := hb5.grown gr6 hb5.size hx5; have hx6 : ∀ g, blkOf A6 = some g → x3.heap.size ≤ g := (fun g hg => by rcases or6 g hg with h | h; exact hx5 g h; (have := hb5.size; omega))))
              go_wp2
              all_goals
                refine ⟨⟨q + 1, k - 1, A3, c3, A6, 0 + i + 0, c6, _, js.take i ++ [], by omega, by go_num, rfl, by simp, by omega, Lib.hid (by simp; have := hjl.out; omega), Lib.hid (HNX.out.mono (by omega)), Lib.hid (L3.out.turn hb6 hx6), Lib.hid (by have := row6; simpa using this), Lib.hid (((J3.out.turn hb6 hx6).mono (by omega)).sub HSUB.out), Lib.hid (T3.out.grow hdw (grown_of_below hb6 none) (fun k h => by cases h))⟩, by simp [intOf]; omega⟩
            · have HS2 := Lib.hid (show ∀ w', Below x3.heap.size x3 w' → ∀ ad, some (⟨g, off + (i + 1), none⟩ : Addr) = some ad → ∀ (j : Nat) (u : Value), ((js.drop (i + 1)).flatMap Job.cells)[j]? = some u → w'.cell? (ad.add j) = some u from fun w' hb' ad h j u hu => by
                injection h with h
                subst h
                rw [Addr.add_lit]
                obtain ⟨g', off', e, _, _, hc, _⟩ := (RR.out.below hb').at_ _ rfl
                injection e with e1 e2
                subst e1 e2
                have := flat_drop Job.size js (i + 1)
                rw [Nat.mul_one] at this
                rw [← this, List.getElem?_drop] at hu
                rw [Nat.add_assoc]
                exact hc _ u hu)
              have HDL := Lib.hid (show ((js.drop (i + 1)).flatMap Job.cells).length = (jn - (i + 1)) * 1 from by rw [flat_len Job.size, List.length_drop, hjl.out])
              have hcap2 : ¬ jc ≤ i + 1 := by omega
              go_wp2
              go_region_law (first
                | (refine step_append_row rfl (.tmp 75) (.tmp 78) 47 rfl w.heap.size 31 i0 _ 1 24 Try.underlying47 hi iz0 iz1 iz2 rfl (by decide) (some ⟨x3.heap.size, 0, none⟩) 0 0 [] (by simp [Act.eval]) HE.out (some ⟨g, off, none⟩) i jc ((js.take i).flatMap Job.cells) (by simp [Act.eval]) (by intro h; cases h) HTL.out HS1.out (job_one _) (by unfold maxLen; omega) (by omega) (by rw [hzA]; omega) ?_; intro A5 c5 x5 row5 gr5 or5; have hb5 : Below x3.heap.size x3 x5 := hbA.grown gr5 (by rw [hzA]; omega) (fun g hg => by injection hg with hg; have hg' : x3.heap.size = g := hg; omega); have hx5 : ∀ g, blkOf A5 = some g → x3.heap.size ≤ g := (fun g hg => by rcases or5 g hg with h | h; (injection h with h; have h' : x3.heap.size = g := h; omega); (rw [hzA] at h; omega)))
                | (refine step_append_row rfl (.tmp 79) (.tmp 83) 47 rfl w.heap.size 31 i0 _ 1 24 Try.underlying47 hi iz0 iz1 iz2 rfl (by decide) A5 (0 + i) c5 ([] ++ (js.take i).flatMap Job.cells) (by simp [Act.eval]) row5 (some ⟨g, off + (i + 1), none⟩) (jn - (i + 1)) (jc - (i + 1)) ((js.drop (i + 1)).flatMap Job.cells) (by simp [Act.eval]) (by intro h; cases h) (HDL.out) (HS2.out _ hb5) (job_one _) (by unfold maxLen; omega) (by omega) (by have := hb5.size; omega) ?_; intro A6 c6 x6 row6 gr6 or6; have hb6 : Below x3.heap.size x3 x6 := hb5.grown gr6 hb5.size hx5; have hx6 : ∀ g, blkOf A6 = some g → x3.heap.size ≤ g := (fun g hg => by rcases or6 g hg with h | h; exact hx5 g h; (have := hb5.size; omega))))
              go_wp2
              all_goals
                refine ⟨⟨q + 1, k - 1, A3, c3, A6, 0 + i + (jn - (i + 1)), c6, _, js.take i ++ js.drop (i + 1), by omega, by go_num, rfl, by simp, by omega, Lib.hid (by simp; have := hjl.out; omega), Lib.hid (HNX.out.mono (by omega)), Lib.hid (L3.out.turn hb6 hx6), Lib.hid (by have := row6; simpa using this), Lib.hid (((J3.out.turn hb6 hx6).mono (by omega)).sub HSUB.out), Lib.hid (T3.out.grow hdw (grown_of_below hb6 none) (fun k h => by cases h))⟩, by simp [intOf]; omega⟩
          · by_cases hp2 : p = 2
            · subst hp2
              go_wp2_with fail
              refine (pick_any d jn x1 T1.out.dice hj0 (by omega)).mono ?_
              rintro e x2 ⟨i, hi2, rfl, t2, y2⟩
              have T2 := Lib.hid (T1.out.trans t2)
              have L2 := Lib.hid (L1.out.thrown t2)
              have J2 := Lib.hid (J1.out.thrown t2)
              have R2 := Lib.hid (R1.out.kept t2.grown (fun g hg e => by have := HJX.out g hg; injection e with e; omega))
              obtain ⟨j, hj⟩ : ∃ j, js[i]? = some j := ⟨_, List.getElem?_eq_getElem (by rw [hjl.out]; exact hi2)⟩
              have hmem := List.mem_of_getElem? hj
              obtain ⟨g, off, hJA⟩ : ∃ g off, JA = some ⟨g, off, none⟩ := by
                cases JA with
                | none => have := R2.out.nul rfl; have := R2.out.le; omega
                | some ad => obtain ⟨g, off, rfl, _⟩ := R2.out.at_ _ rfl; exact ⟨g, off, rfl⟩
              subst hJA
              obtain ⟨g', off', eg, hg0, hg1, hcell, hroom⟩ := R2.out.at_ _ rfl
              injection eg with eg eo
              subst eg eo
              have cj : x2.cell? ⟨g, off + i, none⟩ = some (.slice j.A j.n j.c) := hcell i _ (job_at hj)
              obtain ⟨F1, F2, F3, F4, F5⟩ := J2.out j hmem
              have FS := Lib.hid F1.sl
              have HJ := Lib.hid hj
              have jn30 : j.n ≤ 30 := by omega
              have hjc : jn ≤ jc := R2.out.le
              clear F1 F2 F3 F5 t2 L1 J1 R1 T1 hcell hroom hj
              have D2 : Dice x2.drew d := T2.out.dice.below (Below.drew (Below.refl _ _))
              have L2d := Lib.hid (L2.out.below (Below.drew (Below.refl _ _)) : Lx x2.drew d _ 8 Acc.cells A n l)
              have J2d := Lib.hid (J2.out.below (Below.drew (Below.refl _ _)) : Jobs x2.drew d _ n q js)
              have R2d := Lib.hid (R2.out.below (Below.drew (Below.refl _ _)) : Row x2.drew w.heap.size 1 (some ⟨g, off, none⟩) jn jc (js.flatMap Job.cells))
              have T2d := Lib.hid (T2.out.trans (.of_below T2.out.dice (Below.drew (Below.refl _ _))) : Thrown w d x2.drew)
              have hgd : g ≠ d := by omega
              have hi2b : (i : Int) < (jn : Int) := by omega
              clear L2 J2 R2 T2 FS
              go_wp2_with fail
              go_region_held3 (fun w' => w'.cell? ⟨g, off + i, none⟩ = some (.slice j.A j.n j.c)) (first | exact cj | exact cj3 | exact cj4)
                (first
                  | (go_at_call 10; refine (pick_any d 6 x2.drew D2 (by omega) (by omega)).mono ?_; rintro e x3 ⟨u, hu, rfl, t3, y3⟩; have cj3 : x3.cell? ⟨g, off + i, none⟩ = some (.slice j.A j.n j.c) := (t3.cell (by show g < x2.heap.size; exact hg1) hgd).trans cj; have T3 := Lib.hid (T2d.out.trans t3); have L3 := Lib.hid (L2d.out.thrown t3); have J3 := Lib.hid (J2d.out.thrown t3); have R3 := Lib.hid (R2d.out.kept t3.grown (fun g hg e => by have := HJX.out g hg; injection e with e; omega)); clear t3)
                  | (go_at_call 22; refine (reflose_any A n c l u j.A j.n j.c j.s x3 L3.out.sl (J3.out j hmem).1.sl (by omega) (by omega) (hI.out.ok.le (by omega))).mono ?_; rw [show loseE (u : Int) l j.s = moveE (1 + u) l j.s from by rw [loseE, if_pos (by omega)]; rfl, hI.out.move HJ.out (by omega)]; rintro e x4 ⟨A3, c3, rfl, s3, b3, lo3⟩; simp only [mvAll_len, hI.out.len] at s3 lo3 ⊢; have cj4 : x4.cell? ⟨g, off + i, none⟩ = some (.slice j.A j.n j.c) := (belc b3 (R3.out.block rfl).2).trans cj3; have L4 := Lib.hid (Lx.fresh s3 T3.out.dice.lt (fun g hg => (R3.out.block hg).2) lo3); have J4 := Lib.hid (J3.out.below b3); have RR := Lib.hid (R3.out.below b3); have T4 := Lib.hid (T3.out.trans (.of_below T3.out.dice b3)); have ZW : w.heap.size ≤ x4.heap.size := T4.out.size; clear s3 lo3 b3))
              have hic : i ≤ jc := by omega
              have hic2 : (i : Int) ≤ (jc : Int) := by omega
              have hi1 : i + 1 ≤ jn := by omega
              have hi2' : (i : Int) + 1 ≤ (jn : Int) := by omega
              have hii : (i : Int) ≤ (i : Int) + 1 := by omega
              have hjc0 : ¬ jc = 0 := by omega
              have hi0' : (0 : Int) ≤ (i : Int) + 1 := by omega
              have htn : ((i : Int) + 1).toNat = i + 1 := by omega
              have hwr : IntKind.i64.wrap ((i : Int) + 1) = (i : Int) + 1 := wrap_small (by omega) (by omega)
              have hbA : Below x4.heap.size x4 ((x4.alloc (.cells #[] 31)).drew) := ((by repeat (first | (with_reducible exact (Below.refl _ _)) | (with_reducible refine Below.drew ?_) | (with_reducible refine below_drewN ?_ _) | (with_reducible refine Below.setCell ?_ ?_ _; rotate_left; (first | omega | (simp <;> omega))) | (with_reducible refine Below.alloc ?_ ?_ _; rotate_left; (first | omega | (simp <;> omega))))))
              have hzA : ((x4.alloc (.cells #[] 31)).drew).heap.size = x4.heap.size + 1 := by show (x4.alloc _).heap.size = _; simp
              have HE := Lib.hid (show Row ((x4.alloc (.cells #[] 31)).drew) w.heap.size 1 (some ⟨x4.heap.size, 0, none⟩) 0 0 [] from ⟨rfl, Nat.le_refl _, fun _ => rfl, fun ad h => by injection h with h; subst h; exact ⟨_, _, rfl, ZW, by rw [hzA]; omega, fun j u hu => by simp at hu, fun j hj => by omega⟩⟩)
              have HTL := Lib.hid (show ((js.take i).flatMap Job.cells).length = i * 1 from by rw [flat_len Job.size, List.length_take, hjl.out]; omega)
              have HRA := Lib.hid (RR.out.below hbA)
              have HS1 := Lib.hid (show ∀ ad, some (⟨g, off, none⟩ : Addr) = some ad → ∀ (j : Nat) (u : Value), ((js.take i).flatMap Job.cells)[j]? = some u → ((x4.alloc (.cells #[] 31)).drew).cell? (ad.add j) = some u from fun ad h j u hu => by
                injection h with h
                subst h
                rw [Addr.add_lit]
                obtain ⟨g', off', e, _, _, hc, _⟩ := HRA.out.at_ _ rfl
                injection e with e1 e2
                subst e1 e2
                have := flat_take Job.size js i
                rw [Nat.mul_one] at this
                rw [← this, List.getElem?_take] at hu
                split at hu
                · exact hc j u hu
                · cases hu)
              have HNX := Lib.hid (hI.out.drop HJ.out (f := 1 + u) (by omega))
              have HSUB := Lib.hid (show ∀ x ∈ js.take i ++ js.drop (i + 1), x ∈ js from fun x hx => by
                rcases List.mem_append.1 hx with h1 | h1
                · exact List.mem_of_mem_take h1
                · exact List.mem_of_mem_drop h1)
              by_cases hcap : jc = i + 1
              · obtain rfl : jn = i + 1 := by omega
                subst hcap
                have hdr : js.drop (i + 1) = [] := List.drop_eq_nil_of_le (by rw [hjl.out]; exact Nat.le_refl _)
                rw [hdr] at HNX HSUB
                go_wp2
                go_region_law (first
                  | (refine step_append_row rfl (.tmp 105) (.tmp 108) 47 rfl w.heap.size 31 i0 _ 1 24 Try.underlying47 hi iz0 iz1 iz2 rfl (by decide) (some ⟨x4.heap.size, 0, none⟩) 0 0 [] (by simp [Act.eval]) HE.out (some ⟨g, off, none⟩) i (i + 1) ((js.take i).flatMap Job.cells) (by simp [Act.eval]) (by intro h; cases h) HTL.out HS1.out (job_one _) (by unfold maxLen; omega) (by omega) (by rw [hzA]; omega) ?_; intro A5 c5 x5 row5 gr5 or5; have hb5 : Below x4.heap.size x4 x5 := hbA.grown gr5 (by rw [hzA]; omega) (fun g hg => by injection hg with hg; have hg' : x4.heap.size = g := hg; omega); have hx5 : ∀ g, blkOf A5 = some g → x4.heap.size ≤ g := (fun g hg => by rcases or5 g hg with h | h; (injection h with h; have h' : x4.heap.size = g := h; omega); (rw [hzA] at h; omega)))
                  | (refine step_append_row rfl (.tmp 109) (.tmp 113) 47 rfl w.heap.size 31 i0 _ 1 24 Try.underlying47 hi iz0 iz1 iz2 rfl (by decide) A5 (0 + i) c5 ([] ++ (js.take i).flatMap Job.cells) (by simp [Act.eval]) row5 (some ⟨g, off, none⟩) (0) (0) ([]) (by simp [Act.eval]) (by intro h; cases h) (rfl) (fun ad h j u hu => by simp at hu) (by simp) (by unfold maxLen; omega) (by omega) (by have := hb5.size; omega) ?_; intro A6 c6 x6 row6 gr6 or6; have hb6 : Below x4.heap.size x4 x6 := hb5.grown gr6 hb5.size hx5; have hx6 : ∀ g, blkOf A6 = some g → x4.heap.size ≤ g := (fun g hg => by rcases or6 g hg with h | h; exact hx5 g h; (have := hb5.size; omega))))
                go_wp2
                all_goals
                  refine ⟨⟨q + 1, k - 1, A3, c3, A6, 0 + i + 0, c6, _, js.take i ++ [], by omega, by go_num, rfl, by simp, by omega, Lib.hid (by simp; have := hjl.out; omega), Lib.hid (HNX.out.mono (by omega)), Lib.hid (L4.out.turn hb6 hx6), Lib.hid (by have := row6; simpa using this), Lib.hid (((J4.out.turn hb6 hx6).mono (by omega)).sub HSUB.out), Lib.hid (T4.out.grow hdw (grown_of_below hb6 none) (fun k h => by cases h))⟩, by simp [intOf]; omega⟩
              · have HS2 := Lib.hid (show ∀ w', Below x4.heap.size x4 w' → ∀ ad, some (⟨g, off + (i + 1), none⟩ : Addr) = some ad → ∀ (j : Nat) (u : Value), ((js.drop (i + 1)).flatMap Job.cells)[j]? = some u → w'.cell? (ad.add j) = some u from fun w' hb' ad h j u hu => by
                  injection h with h
                  subst h
                  rw [Addr.add_lit]
                  obtain ⟨g', off', e, _, _, hc, _⟩ := (RR.out.below hb').at_ _ rfl
                  injection e with e1 e2
                  subst e1 e2
                  have := flat_drop Job.size js (i + 1)
                  rw [Nat.mul_one] at this
                  rw [← this, List.getElem?_drop] at hu
                  rw [Nat.add_assoc]
                  exact hc _ u hu)
                have HDL := Lib.hid (show ((js.drop (i + 1)).flatMap Job.cells).length = (jn - (i + 1)) * 1 from by rw [flat_len Job.size, List.length_drop, hjl.out])
                have hcap2 : ¬ jc ≤ i + 1 := by omega
                go_wp2
                go_region_law (first
                  | (refine step_append_row rfl (.tmp 105) (.tmp 108) 47 rfl w.heap.size 31 i0 _ 1 24 Try.underlying47 hi iz0 iz1 iz2 rfl (by decide) (some ⟨x4.heap.size, 0, none⟩) 0 0 [] (by simp [Act.eval]) HE.out (some ⟨g, off, none⟩) i jc ((js.take i).flatMap Job.cells) (by simp [Act.eval]) (by intro h; cases h) HTL.out HS1.out (job_one _) (by unfold maxLen; omega) (by omega) (by rw [hzA]; omega) ?_; intro A5 c5 x5 row5 gr5 or5; have hb5 : Below x4.heap.size x4 x5 := hbA.grown gr5 (by rw [hzA]; omega) (fun g hg => by injection hg with hg; have hg' : x4.heap.size = g := hg; omega); have hx5 : ∀ g, blkOf A5 = some g → x4.heap.size ≤ g := (fun g hg => by rcases or5 g hg with h | h; (injection h with h; have h' : x4.heap.size = g := h; omega); (rw [hzA] at h; omega)))
                  | (refine step_append_row rfl (.tmp 109) (.tmp 113) 47 rfl w.heap.size 31 i0 _ 1 24 Try.underlying47 hi iz0 iz1 iz2 rfl (by decide) A5 (0 + i) c5 ([] ++ (js.take i).flatMap Job.cells) (by simp [Act.eval]) row5 (some ⟨g, off + (i + 1), none⟩) (jn - (i + 1)) (jc - (i + 1)) ((js.drop (i + 1)).flatMap Job.cells) (by simp [Act.eval]) (by intro h; cases h) (HDL.out) (HS2.out _ hb5) (job_one _) (by unfold maxLen; omega) (by omega) (by have := hb5.size; omega) ?_; intro A6 c6 x6 row6 gr6 or6; have hb6 : Below x4.heap.size x4 x6 := hb5.grown gr6 hb5.size hx5; have hx6 : ∀ g, blkOf A6 = some g → x4.heap.size ≤ g := (fun g hg => by rcases or6 g hg with h | h; exact hx5 g h; (have := hb5.size; omega))))
                go_wp2
                all_goals
                  refine ⟨⟨q + 1, k - 1, A3, c3, A6, 0 + i + (jn - (i + 1)), c6, _, js.take i ++ js.drop (i + 1), by omega, by go_num, rfl, by simp, by omega, Lib.hid (by simp; have := hjl.out; omega), Lib.hid (HNX.out.mono (by omega)), Lib.hid (L4.out.turn hb6 hx6), Lib.hid (by have := row6; simpa using this), Lib.hid (((J4.out.turn hb6 hx6).mono (by omega)).sub HSUB.out), Lib.hid (T4.out.grow hdw (grown_of_below hb6 none) (fun k h => by cases h))⟩, by simp [intOf]; omega⟩
            · go_wp2_with fail
              refine (pick_any d jn x1 T1.out.dice hj0 (by omega)).mono ?_
              rintro e x2 ⟨i, hi2, rfl, t2, y2⟩
              have T2 := Lib.hid (T1.out.trans t2)
              have L2 := Lib.hid (L1.out.thrown t2)
              have J2 := Lib.hid (J1.out.thrown t2)
              have R2 := Lib.hid (R1.out.kept t2.grown (fun g hg e => by have := HJX.out g hg; injection e with e; omega))
              obtain ⟨j, hj⟩ : ∃ j, js[i]? = some j := ⟨_, List.getElem?_eq_getElem (by rw [hjl.out]; exact hi2)⟩
              have hmem := List.mem_of_getElem? hj
              obtain ⟨g, off, hJA⟩ : ∃ g off, JA = some ⟨g, off, none⟩ := by
                cases JA with
                | none => have := R2.out.nul rfl; have := R2.out.le; omega
                | some ad => obtain ⟨g, off, rfl, _⟩ := R2.out.at_ _ rfl; exact ⟨g, off, rfl⟩
              subst hJA
              obtain ⟨g', off', eg, hg0, hg1, hcell, hroom⟩ := R2.out.at_ _ rfl
              injection eg with eg eo
              subst eg eo
              have cj : x2.cell? ⟨g, off + i, none⟩ = some (.slice j.A j.n j.c) := hcell i _ (job_at hj)
              obtain ⟨F1, F2, F3, F4, F5⟩ := J2.out j hmem
              have FS := Lib.hid F1.sl
              have HJ := Lib.hid hj
              have jn30 : j.n ≤ 30 := by omega
              have hjc : jn ≤ jc := R2.out.le
              clear F1 F2 F3 F5 t2 L1 J1 R1 T1 hcell hroom hj
              go_wp2_with fail
              refine (pick_any d n x2 T2.out.dice hn1 (by omega)).mono ?_
              rintro e x3 ⟨u, hu, rfl, t3, y3⟩
              have cj3 := (t3.cell (o := off + i) hg1 (show g ≠ d by omega)).trans cj
              have T3 := Lib.hid (T2.out.trans t3)
              have L3 := Lib.hid (L2.out.thrown t3)
              have J3 := Lib.hid (J2.out.thrown t3)
              have R3 := Lib.hid (R2.out.kept t3.grown (fun g hg e => by have := HJX.out g hg; injection e with e; omega))
              clear L2 J2 R2 T2 FS t3 cj y3
              go_wp2_with fail
              refine (refstep_any A n c l u x3 L3.out.sl (by omega) (hI.out.ok.le (by omega))).mono ?_
              have hst : stepE l u = (stepA l u, 0) := by rw [stepE, hI.out.len, inB_true (by omega) (by omega)]; rfl
              have hln : (stepA l u).length = n := (step_len l u).trans hI.out.len
              rw [hst]
              rintro e x4 ⟨A4, c4, rfl, s4, b4, lo4⟩
              simp only [hln] at s4 lo4 ⊢
              have hgx : g < x3.heap.size := (R3.out.block rfl).2
              have cj4 := (belc b4 (o := off + i) hgx).trans cj3
              have L4 := Lib.hid (Lx.fresh s4 T3.out.dice.lt (fun g hg => (R3.out.block hg).2) lo4)
              have J4 := Lib.hid (J3.out.below b4)
              have R4 := Lib.hid (R3.out.below b4)
              have T4 := Lib.hid (T3.out.trans (.of_below T3.out.dice b4))
              clear s4 lo4 b4 L3 J3 R3 T3 hst hln cj3
              have hi2b : (i : Int) < (jn : Int) := by omega
              obtain ⟨F1, F2, F3, F4, F5, F6⟩ := J4.out j hmem
              have HF := Lib.hid F2
              have HF3 := Lib.hid F3
              have HF6 := Lib.hid F6
              have F4' : j.s.length ≤ q := by rw [F1.sl.len]; exact F4
              have hf4 : g < x4.heap.size := (R4.out.block rfl).2
              clear F2 F3 F6
              go_wp2_with fail
              refine (refadd_any j.A j.n j.c j.s u x4 F1.sl (by omega) (okS_of HF.out HF3.out (by omega)) F5 HF6.out).mono ?_
              rintro e x5 ⟨A6, n6, c6, rfl, hn6, s6, b6, lo6, hc6, hA6⟩
              have cj6 := (belc b6 (o := off + i) hf4).trans cj4
              have HN6 := Lib.hid hn6
              have L6 := Lib.hid (L4.out.below b6)
              have J6 := Lib.hid (J4.out.below b6)
              have R6 := Lib.hid (R4.out.below b6)
              have T6 := Lib.hid (T4.out.trans (.of_below T4.out.dice b6))
              have F6' := Lib.hid (Lx.fresh s6 T4.out.dice.lt (fun g hg => (R4.out.block hg).2) lo6)
              have fz6 : x5.frozen? ⟨g, off + i, none⟩ = false := by
                obtain ⟨g', off', e, _, _, _, hr⟩ := R6.out.at_ _ rfl
                injection e with e1 e2
                subst e1 e2
                exact (hr i (by have := R6.out.le; omega)).2
              have HC6 := Lib.hid hc6
              have HA6 := Lib.hid hA6
              clear hn6 s6 b6 lo6 hc6 hA6 L4 J4 R4 T4 F1 F5 cj4
              go_wp2
              go_roundw
              case rel =>
                have hr7 := R6.out.set (j := i) (by omega) (.slice A6 n6 c6)
                have hs7 := job_set js i ⟨A6, n6, c6, addS j.s u⟩
                have hs7' : (js.flatMap Job.cells).set i (.slice A6 n6 c6) = (js.set i ⟨A6, n6, c6, addS j.s u⟩).flatMap Job.cells := hs7
                rw [hs7'] at hr7
                have hg7 := grown_set x5 ⟨g, off + i, none⟩ (.slice A6 n6 c6)
                refine ⟨q + 1, k - 1, A4, c4, some ⟨g, off, none⟩, jn, jc, _, js.set i ⟨A6, n6, c6, addS j.s u⟩, by omega, by go_num, rfl, rfl, by omega, Lib.hid (by rw [List.length_set]; exact hjl.out), Lib.hid (hI.out.step HJ.out hu rfl), Lib.hid (L6.out.grown hg7 (fun g h => .inl h)), Lib.hid hr7, Lib.hid (Jobs.set ((J6.out.grown hg7 (fun g h => .inl h)).mono (by omega)) ⟨F6'.out.grown hg7 (fun g h => .inl h), addS_fine HF.out hu, ?_, ?_, HC6.out, HA6.out⟩), Lib.hid (T6.out.grow hdw hg7 (fun k hk => by injection hk with hk; have hk' : g = k := hk; omega))⟩
                · have := addS_small (k := (u : Int)) HF3.out (by omega); rwa [Int.natCast_succ]
                · have h1 := HN6.out; have h2 := addS_len j.s u; have h3 := F4'; show n6 ≤ q + 1; omega
              case measure => simp [intOf]; omega
        · obtain rfl : jn = 0 := by omega
          by_cases hp1 : p = 1
          · subst hp1
            go_wp2
            go_roundw
            case rel => exact ⟨q + 1, k - 1, A, c, JA, 0, jc, l, js, by omega, by go_num, rfl, rfl, by omega, hjl, Lib.hid (hI.out.mono (by omega)), L1, R1, Lib.hid (J1.out.mono (by omega)), T1⟩
            case measure => simp [intOf]; omega
          · by_cases hp2 : p = 2
            · subst hp2
              go_wp2
              go_roundw
              case rel => exact ⟨q + 1, k - 1, A, c, JA, 0, jc, l, js, by omega, by go_num, rfl, rfl, by omega, hjl, Lib.hid (hI.out.mono (by omega)), L1, R1, Lib.hid (J1.out.mono (by omega)), T1⟩
              case measure => simp [intOf]; omega
            · go_wp2
              go_roundw
              case rel => exact ⟨q + 1, k - 1, A, c, JA, 0, jc, l, js, by omega, by go_num, rfl, rfl, by omega, hjl, Lib.hid (hI.out.mono (by omega)), L1, R1, Lib.hid (J1.out.mono (by omega)), T1⟩
              case measure => simp [intOf]; omega
    · obtain rfl : k = 0 := by omega
      obtain rfl := hjl.out
      go_wp2
      go_ret2
      exact ⟨n, A, c, l, JA, jc, js, rfl, hn1, hn4, by omega, Lib.hid (hI.out.mono (by omega)), hL, hR, Lib.hid (hJ.out.mono (by omega)), hT.out⟩
end Go.Proofs.Ytignbncphdemlaa
