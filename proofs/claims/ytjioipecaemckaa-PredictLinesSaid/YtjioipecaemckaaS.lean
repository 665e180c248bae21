/- The law of lines, walked. -/
import Derived.Test.YtjioipecaemckaaO
import Derived.Test.YtjioipecaemckaaPlain3
namespace Go.Proofs.Ytjioipecaemckaa
open Go.RowKit

theorem Sl.set_pos {α : Type} {w : World} {B sz : Nat} {cells : α → List Value} {A : Option Addr} {n : Nat} {l : List α} (h : Sl w B sz cells A n l) {p : Addr} (hp : 0 < n → ∀ ad, A = some ad → ad.block ≠ p.block) (u : Value) : Sl (w.setCell p u) B sz cells A n l :=
  ⟨h.len, fun hn => by
    obtain ⟨ab, ao, e, hlt, hc⟩ := h.at_ hn
    refine ⟨ab, ao, e, hlt, fun i x hx j u hu => (World.cell?_setCell_other w p _ _ (fun e2 => hp hn _ e (by rw [e2]))).trans (hc i x hx j u hu)⟩⟩

def xv (a by_ : Int) : Nat → Int
  | 0 => a
  | i + 1 => wrap64 (xv a by_ i + by_)
def lin (ts : List Trk) (a by_ : Int) : Nat → List Trk
  | 0 => ts
  | i + 1 => train (train (lin ts a by_ i) 3 ⟨false, xv a by_ i⟩) 4 ⟨false, (i : Int) * 7⟩
theorem lin_good {ts : List Trk} (h : Good ts) (a by_ : Int) : ∀ i, Good (lin ts a by_ i) ∧ (lin ts a by_ i).length ≤ ts.length + 2 * i
  | 0 => ⟨h, by simp [lin]⟩
  | i + 1 => by
    have ih := lin_good h a by_ i
    refine ⟨train_good (train_good ih.1 _ _) _ _, ?_⟩
    have h1 := train_len (lin ts a by_ i) 3 ⟨false, xv a by_ i⟩
    have h2 := train_len (train (lin ts a by_ i) 3 ⟨false, xv a by_ i⟩) 4 ⟨false, (i : Int) * 7⟩
    simp only [lin]
    omega
theorem xv_range {a : Int} (h : -9223372036854775808 ≤ a ∧ a ≤ 9223372036854775807) (by_ : Int) : ∀ i, -9223372036854775808 ≤ xv a by_ i ∧ xv a by_ i ≤ 9223372036854775807
  | 0 => h
  | i + 1 => by simp only [xv]; unfold wrap64; omega
theorem lin_fnd {ts : List Trk} (h : Good ts) (a by_ : Int) (i : Nat) : ∃ t, fnd (lin ts a by_ (i + 1)) 3 = some t ∧ t.last = ⟨false, xv a by_ i⟩ ∧ (0 < i → t.stride = wrap64 (xv a by_ i - xv a by_ (i - 1))) := by
  have hg := (lin_good h a by_ i).1
  have h1 := fnd_train hg 3 ⟨false, xv a by_ i⟩
  have h2 := fnd_other (train_good hg 3 ⟨false, xv a by_ i⟩) (k := 4) (k' := 3) ⟨false, (i : Int) * 7⟩ (by omega)
  refine ⟨newTrk (lin ts a by_ i) 3 ⟨false, xv a by_ i⟩, by simp only [lin]; rw [h2.1, h1.2], ?_, fun hi => ?_⟩
  · unfold newTrk; cases fnd (lin ts a by_ i) 3 <;> rfl
  · obtain ⟨j, rfl⟩ : ∃ j, i = j + 1 := ⟨i - 1, by omega⟩
    have hgj := (lin_good h a by_ j).1
    have e1 := fnd_train hgj 3 ⟨false, xv a by_ j⟩
    have e2 := fnd_other (train_good hgj 3 ⟨false, xv a by_ j⟩) (k := 4) (k' := 3) ⟨false, (j : Int) * 7⟩ (by omega)
    have hl : (newTrk (lin ts a by_ j) 3 ⟨false, xv a by_ j⟩).last = ⟨false, xv a by_ j⟩ := by unfold newTrk; cases fnd (lin ts a by_ j) 3 <;> rfl
    have hf : fnd (lin ts a by_ (j + 1)) 3 = some (newTrk (lin ts a by_ j) 3 ⟨false, xv a by_ j⟩) := by simp only [lin]; rw [e2.1, e1.2]
    show (match fnd (lin ts a by_ (j + 1)) 3 with | some t => upd t ⟨false, xv a by_ (j + 1)⟩ | none => _).stride = _
    rw [hf]
    simp only [upd, hl]
    simp
theorem lin_facts {ts : List Trk} (h : Good ts) {a : Int} (ha : -9223372036854775808 ≤ a ∧ a ≤ 9223372036854775807) {by_ : Int} (m : Nat) (hm : 2 ≤ m) :
    hit (lin ts a by_ m) 3 = true ∧ strideV (lin ts a by_ m) 3 = ⟨false, xv a by_ m⟩ ∧ lastV (lin ts a by_ m) 3 = ⟨false, wrap64 (xv a by_ m - by_)⟩ := by
  obtain ⟨j, rfl⟩ : ∃ j, m = j + 1 + 1 := ⟨m - 2, by omega⟩
  obtain ⟨t, hf, hl, hs⟩ := lin_fnd h a by_ (j + 1)
  have hs := hs (by omega)
  rw [Nat.add_sub_cancel] at hs
  have r0 := xv_range ha by_ j
  have r1 := xv_range ha by_ (j + 1)
  have e1 : xv a by_ (j + 1) = wrap64 (xv a by_ j + by_) := rfl
  have e2 : xv a by_ (j + 1 + 1) = wrap64 (xv a by_ (j + 1) + by_) := rfl
  refine ⟨(fnd_at hf).1, ?_, ?_⟩
  · rw [strideV, hf]
    simp only [hl, hs]
    rw [if_neg (by simp), e2]
    congr 1
    generalize xv a by_ (j + 1) = y at *
    generalize xv a by_ j = x at *
    subst e1
    unfold wrap64
    omega
  · rw [lastV, hf]
    simp only [hl]
    rw [e2]
    congr 1
    generalize xv a by_ (j + 1) = y at *
    unfold wrap64
    omega

set_option maxHeartbeats 1000000 in
theorem lines_any (KA : Option Addr) (kn kc : Nat) (VA : Option Addr) (vn vc : Nat) (ks : List Int) (vs : List Val) (a by_ more : Int) (w : World)
    (hk : Sl w w.heap.size 1 keyCells KA kn ks) (hv : Sl w w.heap.size 2 Val.cells VA vn vs) (hkn : kn ≤ 9223372036854775807) (hvn : vn ≤ 9223372036854775807) (hks : ∀ (i : Nat) (k : Int), ks[i]? = some k → 0 ≤ k ∧ k ≤ 255) (ha : -9223372036854775808 ≤ a ∧ a ≤ 9223372036854775807) (hm : 0 ≤ more ∧ more ≤ 255) :
    Calls Try.prog 4 #[.slice KA kn kc, .slice VA vn vc, .int .i64 a, .int .i64 by_, .int .u8 more] w fun e w' => e = .returned (.bool true) ∧ Below w.heap.size w w' := by
  have HA := Lib.hid ha
  obtain ⟨hm0, hm1⟩ := hm
  clear ha
  go_enter Try.func4, Try.ntmps4
  go_wp2_with fail
  refine (sane_any _).mono ?_
  rintro e w1 ⟨rfl, hb1⟩
  have hz1 := hb1.size
  go_wp2_with fail
  refine (trained_any KA kn kc VA vn vc ks vs w1 ((hk.below hb1).mono hz1) ((hv.below hb1).mono hz1) hkn hvn hks).mono ?_
  rintro e w2 ⟨ts, hg, hlen, A2, n2, c2, rfl, hs2, hb2, hlo2⟩
  have hz2 := hb2.size
  have hb12 := hb1.trans (hb2.mono hz1)
  obtain ⟨m, hM⟩ : ∃ m : Nat, (m : Int) = 2 + more % 4 := ⟨(2 + more % 4).toNat, by omega⟩
  have hm2 : 2 ≤ m ∧ m ≤ 5 := by omega
  obtain ⟨hm2, hm5⟩ := hm2
  go_wp2_with fail
  rw [← hM]
  have HM := Lib.hid hM
  clear hM
  go_loopw [13, 14] (fun x i wr => ∃ (k : Nat) (A : Option Addr) (n c : Nat), k ≤ m ∧ i = .int .i64 k ∧ x = .int .i64 (xv a by_ k) ∧ wr.cell? ⟨w2.heap.size, 0, none⟩ = some (.slice A n c) ∧ wr.frozen? ⟨w2.heap.size, 0, none⟩ = false ∧ Hid (Sl wr wr.heap.size 5 Trk.cells A n (lin ts a by_ k)) ∧ Hid (0 < n → ∀ ad, A = some ad → ad.block ≠ w2.heap.size) ∧ Below w.heap.size w wr ∧ w2.heap.size < wr.heap.size) (fun _ i _ => m - (intOf i).toNat)
  case atStart => exact ⟨0, A2, n2, c2, by omega, rfl, rfl, by simp, by simp, (hs2.below ((Below.refl _ _).alloc (Nat.le_refl _) _)).mono (by simp), fun hn ad h => by subst h; obtain ⟨ab, ao, e, hlt, _⟩ := hs2.at_ hn; injection e with e; subst e; show ab ≠ w2.heap.size; omega, hb12.alloc (by omega) _, by simp⟩
  case round =>
    obtain ⟨k, A, n, c, hkm, rfl, rfl, hp, hpf, hs, hlo, hb, hz⟩ := hrel
    by_cases hlt : k < m
    · have hgl := lin_good hg a by_ k
      go_wp2_with fail
      refine (train_any A n c _ 3 ⟨false, xv a by_ k⟩ wr hs.out (by rw [← hs.out.len]; omega) hgl.1).mono ?_
      rintro e w3 ⟨A3, n3, c3, rfl, hs3, hb3, hlo3⟩
      have hz3 := hb3.size
      have p3 := (hb3.cell (p := ⟨w2.heap.size, 0, none⟩) hz).trans hp
      have p3f := (hb3.frozen (p := ⟨w2.heap.size, 0, none⟩) hz).trans hpf
      have hs3' := Sl.set (p := ⟨w2.heap.size, 0, none⟩) hs3 (fun ad h => by have := hlo3 ad h; show ad.block ≠ w2.heap.size; omega) (.slice A3 n3 c3)
      have hn3 : n3 ≤ 900000 := by have := hs3.len; have := train_len (lin ts a by_ k) 3 ⟨false, xv a by_ k⟩; omega
      have hbw3 : Below w.heap.size w w3 := hb.trans (hb3.mono hb.size)
      go_wp2_with fail
      have hk7 : (k : Int) * 7 = ((k * 7 : Nat) : Int) := by omega
      refine (train_any A3 n3 c3 _ 4 ⟨false, (k : Int) * 7⟩ _ (hs3'.mono (by simp)) hn3 (train_good hgl.1 _ _)).mono ?_
      rintro e w4 ⟨A4, n4, c4, rfl, hs4, hb4, hlo4⟩
      have hz4 := hb4.size
      simp only [World.size_setCell] at hz4
      have p4 := (hb4.cell (p := ⟨w2.heap.size, 0, none⟩) (by simp; omega)).trans (World.cell?_setCell_same _ _ _ p3)
      have p4f : w4.frozen? ⟨w2.heap.size, 0, none⟩ = false := (hb4.frozen (p := ⟨w2.heap.size, 0, none⟩) (by simp; omega)).trans (by rw [World.frozen?_setCell]; exact p3f)
      have hbw4 : Below w.heap.size w w4 := (hbw3.setCell (p := ⟨w2.heap.size, 0, none⟩) (by show w.heap.size ≤ w2.heap.size; omega) _).trans (hb4.mono (by have := hbw3.size; simp; omega))
      have HS4 := Lib.hid hs4
      have HL4 : Hid (0 < n4 → ∀ ad, A4 = some ad → ad.block ≠ w2.heap.size) := fun _ ad h => by have := hlo4 ad h; simp at this; omega
      clear hs4 hlo4 hs3' hk7
      go_wp2
      go_roundw
      case rel =>
        refine ⟨k + 1, A4, n4, c4, by omega, by go_num, rfl, by simp [go_sem, p4], by simp [p4f], ?_, HL4, (by repeat (first | (with_reducible exact hbw4) | (with_reducible refine Below.drew ?_) | (with_reducible refine below_drewN ?_ _) | (with_reducible refine Below.setCell ?_ ?_ _; rotate_left; (simp <;> omega)) | (with_reducible refine Below.alloc ?_ ?_ _; rotate_left; (simp <;> omega)))), by simp; omega⟩
        exact (Sl.set_pos (p := ⟨w2.heap.size, 0, none⟩) HS4.out (fun h0 ad h => HL4.out h0 ad h) _).mono (by simp)
      case measure => simp [intOf]; omega
    · obtain rfl : k = m := by omega
      obtain ⟨f1, f2, f3⟩ := lin_facts (ts := ts) hg HA.out (by_ := by_) k hm2
      have F1 := Lib.hid f1
      have F2 := Lib.hid f2
      have F3 := Lib.hid f3
      have hgl := lin_good hg a by_ k
      have hnk : n ≤ 1000000 := by rw [← hs.out.len]; omega
      clear f1 f2 f3
      go_wp2_with fail
      refine (stride_any A n c _ 3 wr hs.out hnk hgl.1.1).mono ?_
      rintro e w3 ⟨rfl, hb3⟩
      have hz3 := hb3.size
      have p3 := (hb3.cell (p := ⟨w2.heap.size, 0, none⟩) hz).trans hp
      have l3 : w2.heap.size < w3.heap.size := by omega
      have hbw3 : Below w.heap.size w w3 := hb.trans (hb3.mono hb.size)
      rw [F1.out, F2.out, Val.value]
      go_wp2_with fail
      have q3 : ∀ o, (w3.alloc o).cell? ⟨w2.heap.size, 0, none⟩ = some (.slice A n c) := fun o => (cell_old _ _ _ _ l3).trans p3
      have q4 : (w3.alloc (.cells #[.bool false, .int .i64 (xv a by_ k)] 31)).cell? ⟨w3.heap.size, 0, none⟩ = some (.bool false) := by simp
      have q5 : (w3.alloc (.cells #[.bool false, .int .i64 (xv a by_ k)] 31)).cell? ⟨w3.heap.size, 1, none⟩ = some (.int .i64 (xv a by_ k)) := by simp
      refine (last_any A n c _ 3 _ (((hs.out.below hb3).below ((Below.refl _ _).alloc (by omega) _)).mono (by simp; omega)) hnk hgl.1.1).mono ?_
      rintro e w4 ⟨rfl, hb4⟩
      have hz4 := hb4.size
      simp only [World.size_alloc] at hz4
      have r4 := (hb4.cell (p := ⟨w3.heap.size, 0, none⟩) (by simp)).trans q4
      have r5 := (hb4.cell (p := ⟨w3.heap.size, 1, none⟩) (by simp)).trans q5
      have l4 : w3.heap.size < w4.heap.size := by omega
      have hbw4 : Below w.heap.size w w4 := (hbw3.alloc (by have := hbw3.size; omega) _).trans (hb4.mono (by have := hbw3.size; simp; omega))
      rw [F1.out, F3.out, Val.value]
      clear q3 q4 q5
      go_wp2
      go_ret
      exact ⟨rfl, hbw4.alloc (by have := hbw4.size; omega) _⟩
end Go.Proofs.Ytjioipecaemckaa
