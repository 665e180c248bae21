/- The law of keys, walked. -/
import Derived.Test.YtjioipecaemckaaO
import Derived.Test.YtjioipecaemckaaPlain3
namespace Go.Proofs.Ytjioipecaemckaa
open Go.RowKit

theorem u8_mod (q : Int) (h : 0 ≤ q ∧ q ≤ 255) : 0 ≤ q % 16 ∧ q % 16 ≤ 15 := by omega
theorem keyV_ok {s f : Int} (h1 : -1 ≤ s) (h2 : s ≤ 2047) (h3 : 0 ≤ f) (h4 : f ≤ 255) : keyV s f = .tuple #[.int .i64 ((s + 1) * 256 + f), .int .i64 0] := by
  have h : keyOk s f = true := by simp [keyOk, h1, h2, h3, h4]
  simp [keyV, h]

set_option maxHeartbeats 1000000 in
theorem keys_any (KA : Option Addr) (kn kc : Nat) (VA : Option Addr) (vn vc : Nat) (ks : List Int) (vs : List Val) (a b : Int) (v : Val) (at_ : Int) (w : World)
    (hk : Sl w w.heap.size 1 keyCells KA kn ks) (hv : Sl w w.heap.size 2 Val.cells VA vn vs) (hkn : kn ≤ 9223372036854775807) (hvn : vn ≤ 9223372036854775807) (hks : ∀ (i : Nat) (k : Int), ks[i]? = some k → 0 ≤ k ∧ k ≤ 255)
    (ha : 0 ≤ a ∧ a ≤ 255) (hb : 0 ≤ b ∧ b ≤ 255) (hat : 0 ≤ at_ ∧ at_ ≤ 4294967295) :
    Calls Try.prog 5 #[.slice KA kn kc, .slice VA vn vc, .int .u8 a, .int .u8 b, v.value, .int .u32 at_] w fun e w' => e = .returned (.bool true) ∧ Below w.heap.size w w' := by
  obtain ⟨ha0, ha1⟩ := ha
  obtain ⟨hb0, hb1'⟩ := hb
  obtain ⟨hat0, hat1⟩ := hat
  unfold Val.value
  obtain ⟨W, hW⟩ : ∃ W, W = w.alloc (.cells #[.bool v.ref, .int .i64 v.n] 31) := ⟨_, rfl⟩
  have hWb : Below w.heap.size w W := by rw [hW]; exact (Below.refl _ _).alloc (Nat.le_refl _) _
  have hWz : W.heap.size = w.heap.size + 1 := by rw [hW]; simp
  have q0 : W.cell? ⟨w.heap.size, 0, none⟩ = some (.bool v.ref) := by rw [hW]; simp
  have q1 : W.cell? ⟨w.heap.size, 1, none⟩ = some (.int .i64 v.n) := by rw [hW]; simp
  go_enter Try.func5, Try.ntmps5
  go_wp2_with fail
  rw [← hW]
  clear hW
  have HWZ := Lib.hid hWz
  clear hWz
  refine (sane_any _).mono ?_
  rintro e w1 ⟨rfl, hb1⟩
  have hz1 := hb1.size
  have q0 := (hb1.cell (p := ⟨w.heap.size, 0, none⟩) (by simp [HWZ.out])).trans q0
  have q1 := (hb1.cell (p := ⟨w.heap.size, 1, none⟩) (by simp [HWZ.out])).trans q1
  have hb01 : Below w.heap.size w w1 := hWb.trans (hb1.mono hWb.size)
  go_wp2_with fail
  refine (trained_any KA kn kc VA vn vc ks vs w1 ((hk.below hb01).mono hb01.size) ((hv.below hb01).mono hb01.size) hkn hvn hks).mono ?_
  rintro e w2 ⟨ts, hg, hlen, A2, n2, c2, rfl, hs2, hb2, hlo2⟩
  have hz2 := hb2.size
  have hb02 := hb01.trans (hb2.mono hb01.size)
  have hlw : w.heap.size < w1.heap.size := by have := HWZ.out; omega
  have hlw2 : w.heap.size < w2.heap.size := by omega
  have q0 := (hb2.cell (p := ⟨w.heap.size, 0, none⟩) hlw).trans q0
  have q1 := (hb2.cell (p := ⟨w.heap.size, 1, none⟩) hlw).trans q1
  go_wp2_with fail
  obtain ⟨W2, hW2⟩ : ∃ W2, W2 = w2.alloc (.cells #[.slice A2 n2 c2] 27) := ⟨_, rfl⟩
  rw [← hW2]
  have hZ2 : W2.heap.size = w2.heap.size + 1 := by rw [hW2]; simp
  have p2 : W2.cell? ⟨w2.heap.size, 0, none⟩ = some (.slice A2 n2 c2) := by rw [hW2]; simp
  have hb2W : Below w2.heap.size w2 W2 := by rw [hW2]; exact (Below.refl _ _).alloc (Nat.le_refl _) _
  have hn2 := hs2.len
  have HN2 := Lib.hid hn2
  have HZ2 := Lib.hid hZ2
  clear hW2 hn2 hZ2
  refine (train_any A2 n2 c2 ts (a % 16) v W2 ((hs2.below hb2W).mono hb2W.size) (by rw [← HN2.out]; omega) hg).mono ?_
  rintro e w3 ⟨A3, n3, c3, rfl, hs3, hb3, hlo3⟩
  have hz3 := hb3.size
  have p3 := (hb3.cell (p := ⟨w2.heap.size, 0, none⟩) (by show w2.heap.size < W2.heap.size; have := HZ2.out; omega)).trans p2
  have hl23 : w2.heap.size < w3.heap.size := by have := HZ2.out; omega
  have hbw23 : Below w2.heap.size w2 w3 := hb2W.trans (hb3.mono hb2W.size)
  have hb03 : Below w.heap.size w w3 := hb02.trans (hbw23.mono (by omega))
  have hg3 := train_good hg (a % 16) v
  have hn3 : n3 ≤ 41 := by have := hs3.len; have := train_len ts (a % 16) v; omega
  go_wp2_with fail
  go_loopw [15] (fun i wr => ∃ k : Nat, 1 ≤ k ∧ i = .int .i64 k ∧ Below (w3.heap.size + 1) (w3.alloc (.cells #[.slice A3 n3 c3] 27)) wr) (fun i _ => 50 - (intOf i).toNat)
  case atStart => exact ⟨1, by omega, rfl, Below.refl _ _⟩
  case round =>
    obtain ⟨k, hk1, rfl, hbr⟩ := hrel
    have hzr := hbr.size
    simp only [World.size_alloc] at hzr
    have r0 : wr.cell? ⟨w3.heap.size, 0, none⟩ = some (.slice A3 n3 c3) := (hbr.cell (p := ⟨w3.heap.size, 0, none⟩) (by simp)).trans (by simp)
    have r1 : wr.cell? ⟨w2.heap.size, 0, none⟩ = some (.slice A2 n2 c2) := (hbr.cell (p := ⟨w2.heap.size, 0, none⟩) (by simp; omega)).trans ((cell_old _ _ _ _ hl23).trans p3)
    have hb3r : Below w3.heap.size w3 wr := ((Below.refl _ _).alloc (Nat.le_refl _) _).trans (hbr.mono (by omega))
    have hb0r : Below w.heap.size w wr := hb03.trans (hb3r.mono hb03.size)
    by_cases hlt : k < n3
    · obtain ⟨ab, ao, rfl, hlo, hget⟩ := hs3.at_ (by omega)
      obtain ⟨t, ht⟩ : ∃ t, (train ts (a % 16) v)[k - 1]? = some t := ⟨_, List.getElem?_eq_getElem (by rw [hs3.len]; omega)⟩
      obtain ⟨u, hu⟩ : ∃ u, (train ts (a % 16) v)[k]? = some u := ⟨_, List.getElem?_eq_getElem (by rw [hs3.len]; omega)⟩
      have hkk := hg3.1 (k - 1) k t u (by omega) ht hu
      have c0 : wr.cell? ⟨ab, ao + (k - 1) * 5, none⟩ = some (.int .i64 t.key) := (hb3r.cell (p := ⟨ab, _, none⟩) hlo).trans (hget (k - 1) t ht 0 _ rfl)
      have d0 : wr.cell? ⟨ab, ao + k * 5, none⟩ = some (.int .i64 u.key) := (hb3r.cell (p := ⟨ab, _, none⟩) hlo).trans (hget k u hu 0 _ rfl)
      clear ht hu hget
      go_wp2
      have hw1 : IntKind.i64.wrap ((k : Int) - 1) = (k : Int) - 1 := IntWalk.i64_in _ (by omega)
      have hw2 : (0 : Int) ≤ (k : Int) - 1 := by omega
      have hw3 : (1 : Int) ≤ (k : Int) := by omega
      have hw4 : ((k : Int) - 1).toNat = k - 1 := by omega
      have hw5 : (k : Int) - 1 < (n3 : Int) := by omega
      have hw6 : k - 1 < n3 := by omega
      have hd : decide (u.key ≤ t.key) = false := by simpa using hkk
      go_quiet (fail)
      clear hw1 hw2 hw3 hw4 hw5 hw6
      go_wp2
      go_roundw
      case rel => exact ⟨k + 1, by omega, by go_num, below_drewN hbr _⟩
      case measure => simp [intOf]; omega
    · by_cases hab : a % 16 = b % 16
      · go_wp2_with fail
        have HAB := Lib.hid hab
        clear hab
        obtain ⟨WT, hWT⟩ : ∃ WT, WT = wr := ⟨_, rfl⟩
        rw [← hWT]
        have hbT : Below w.heap.size w WT := by rw [hWT]; exact hb0r
        clear hWT
        refine (key_any (at_ % 2048) a _).mono ?_
        rintro e w6 ⟨rfl, hb6⟩
        have hbT6 : Below w.heap.size w w6 := hbT.trans (hb6.mono hbT.size)
        rw [keyV_ok (by omega) (by omega) ha0 ha1]
        go_wp2_with fail
        refine (key_any (at_ / 65536 % 2048) b _).mono ?_
        rintro e w7 ⟨rfl, hb7⟩
        have hbT7 : Below w.heap.size w w7 := hbT6.trans (hb7.mono hbT6.size)
        rw [keyV_ok (by omega) (by omega) hb0 hb1']
        obtain ⟨x, hx⟩ : ∃ x, x = at_ % 2048 := ⟨_, rfl⟩
        obtain ⟨y, hy⟩ : ∃ y, y = at_ / 65536 % 2048 := ⟨_, rfl⟩
        have hx0 : 0 ≤ x ∧ x ≤ 2047 := by omega
        have hy0 : 0 ≤ y ∧ y ≤ 2047 := by omega
        rw [← hx, ← hy]
        clear hx hy HAB
        by_cases hxy : x = y
        · subst hxy
          by_cases hab2 : a = b
          · subst hab2
            go_wp2
            go_ret
            exact ⟨rfl, hbT7⟩
          · have h1 : ((x + 1) * 256 + a == (x + 1) * 256 + b) = false := by rw [beq_eq_false_iff_ne]; omega
            have h2 : (a == b) = false := by rw [beq_eq_false_iff_ne]; exact hab2
            go_wp2
            go_ret
            exact ⟨rfl, hbT7⟩
        · have h1 : ((x + 1) * 256 + a == (y + 1) * 256 + b) = false := by rw [beq_eq_false_iff_ne]; omega
          have h2 : (x == y) = false := by rw [beq_eq_false_iff_ne]; exact hxy
          go_wp2
          go_ret
          exact ⟨rfl, hbT7⟩
      · have hne : b % 16 ≠ a % 16 := fun h => hab h.symm
        have HF := Lib.hid (fnd_other hg v hne)
        have hsv : strideV (train ts (a % 16) v) (b % 16) = strideV ts (b % 16) := by unfold strideV; rw [HF.out.1]
        have HSV := Lib.hid hsv
        have HAB := Lib.hid hab
        have hb2r : Below w2.heap.size w2 wr := hbw23.trans (hb3r.mono (by omega))
        have hn2' : n2 ≤ 1000000 := by rw [← HN2.out]; omega
        clear hsv
        go_wp2_with fail
        refine (stride_any A2 n2 c2 ts (b % 16) wr ((hs2.below hb2r).mono hb2r.size) hn2' hg.1).mono ?_
        rintro e w4 ⟨rfl, hb4⟩
        have hz4 := hb4.size
        have p4 := (hb4.cell (p := ⟨w3.heap.size, 0, none⟩) (by show w3.heap.size < wr.heap.size; omega)).trans r0
        have l4 : w3.heap.size < w4.heap.size := by omega
        have hb04 : Below w.heap.size w w4 := hb0r.trans (hb4.mono hb0r.size)
        have hb34 : Below w3.heap.size w3 w4 := hb3r.trans (hb4.mono hb3r.size)
        unfold Val.value
        obtain ⟨sv, hsv⟩ : ∃ sv, sv = strideV ts (b % 16) := ⟨_, rfl⟩
        obtain ⟨hh, hhh⟩ : ∃ hh, hh = hit ts (b % 16) := ⟨_, rfl⟩
        rw [← hsv, ← hhh]
        have HS1 := Lib.hid hsv
        have HS2 := Lib.hid hhh
        clear hsv hhh
        go_wp2_with fail
        have q4 : (w4.alloc (.cells #[.bool sv.ref, .int .i64 sv.n] 31)).cell? ⟨w4.heap.size, 0, none⟩ = some (.bool sv.ref) := by simp
        have q5 : (w4.alloc (.cells #[.bool sv.ref, .int .i64 sv.n] 31)).cell? ⟨w4.heap.size, 1, none⟩ = some (.int .i64 sv.n) := by simp
        refine (stride_any A3 n3 c3 _ (b % 16) _ (((hs3.below hb34).below ((Below.refl _ _).alloc (by omega) _)).mono (by simp; omega)) (by omega) hg3.1).mono ?_
        rintro e w5 ⟨rfl, hb5⟩
        have hz5 := hb5.size
        simp only [World.size_alloc] at hz5
        have r4 := (hb5.cell (p := ⟨w4.heap.size, 0, none⟩) (by simp)).trans q4
        have r5 := (hb5.cell (p := ⟨w4.heap.size, 1, none⟩) (by simp)).trans q5
        have l5 : w4.heap.size < w5.heap.size := by omega
        have hb05 : Below w.heap.size w w5 := (hb04.alloc (by have := hb04.size; omega) _).trans (hb5.mono (by have := hb04.size; simp; omega))
        rw [HSV.out, HF.out.2, ← HS1.out, ← HS2.out, Val.value]
        clear q4 q5
        have hlz : w.heap.size ≤ w5.heap.size := hb05.size
        go_wp2_with fail
        obtain ⟨WT, hWT⟩ : ∃ WT, WT = w5.alloc (.cells #[.bool sv.ref, .int .i64 sv.n] 31) := ⟨_, rfl⟩
        rw [← hWT]
        have hbT : Below w.heap.size w WT := by rw [hWT]; exact hb05.alloc hlz _
        clear hWT
        refine (key_any (at_ % 2048) a _).mono ?_
        rintro e w6 ⟨rfl, hb6⟩
        have hbT6 : Below w.heap.size w w6 := hbT.trans (hb6.mono hbT.size)
        rw [keyV_ok (by omega) (by omega) ha0 ha1]
        go_wp2_with fail
        refine (key_any (at_ / 65536 % 2048) b _).mono ?_
        rintro e w7 ⟨rfl, hb7⟩
        have hbT7 : Below w.heap.size w w7 := hbT6.trans (hb7.mono hbT6.size)
        rw [keyV_ok (by omega) (by omega) hb0 hb1']
        obtain ⟨x, hx⟩ : ∃ x, x = at_ % 2048 := ⟨_, rfl⟩
        obtain ⟨y, hy⟩ : ∃ y, y = at_ / 65536 % 2048 := ⟨_, rfl⟩
        have hx0 : 0 ≤ x ∧ x ≤ 2047 := by omega
        have hy0 : 0 ≤ y ∧ y ≤ 2047 := by omega
        rw [← hx, ← hy]
        clear hx hy HAB
        by_cases hxy : x = y
        · subst hxy
          by_cases hab2 : a = b
          · exact absurd (show b % 16 = a % 16 by rw [hab2]) hne
          · have h1 : ((x + 1) * 256 + a == (x + 1) * 256 + b) = false := by rw [beq_eq_false_iff_ne]; omega
            have h2 : (a == b) = false := by rw [beq_eq_false_iff_ne]; exact hab2
            go_wp2
            go_ret
            exact ⟨rfl, hbT7⟩
        · have h1 : ((x + 1) * 256 + a == (y + 1) * 256 + b) = false := by rw [beq_eq_false_iff_ne]; omega
          have h2 : (x == y) = false := by rw [beq_eq_false_iff_ne]; exact hxy
          go_wp2
          go_ret
          exact ⟨rfl, hbT7⟩
end Go.Proofs.Ytjioipecaemckaa
