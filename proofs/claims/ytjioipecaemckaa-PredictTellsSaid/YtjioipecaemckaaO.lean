/- A predictor that has seen some values. -/
import Derived.Test.YtjioipecaemckaaM
namespace Go.Proofs.Ytjioipecaemckaa
open Go.RowKit

def keyCells (k : Int) : List Value := [.int .u8 k]
/-- What a call leaves that gives a sound predictor of few tracks. -/
def GivesGood (w : World) (e : Ending) (w' : World) : Prop := ∃ ts, Good ts ∧ ts.length ≤ 40 ∧ Gives ts w e w'

set_option maxHeartbeats 1000000 in
theorem trained_any (KA : Option Addr) (kn kc : Nat) (VA : Option Addr) (vn vc : Nat) (ks : List Int) (vs : List Val) (w : World)
    (hk : Sl w w.heap.size 1 keyCells KA kn ks) (hv : Sl w w.heap.size 2 Val.cells VA vn vs) (hkn : kn ≤ 9223372036854775807) (hvn : vn ≤ 9223372036854775807) (hks : ∀ (i : Nat) (k : Int), ks[i]? = some k → 0 ≤ k ∧ k ≤ 255) :
    Calls Try.prog 18 #[.slice KA kn kc, .slice VA vn vc] w (GivesGood w) := by
  have HK := Lib.hid hk.len
  have HV := Lib.hid hv.len
  have HKS := Lib.hid hks
  clear hks
  go_enter Try.func18, Try.ntmps18
  go_wp2_with fail
  go_loopw [6] (fun i wr => ∃ (k : Nat) (A : Option Addr) (n c : Nat), k ≤ 40 ∧ i = .int .i64 k ∧ wr.cell? ⟨w.heap.size + 1, 0, none⟩ = some (.slice A n c) ∧ wr.frozen? ⟨w.heap.size + 1, 0, none⟩ = false ∧ wr.cell? ⟨w.heap.size, 0, none⟩ = some (.slice none 0 0) ∧ wr.frozen? ⟨w.heap.size, 0, none⟩ = false ∧ Hid (Sl wr wr.heap.size 5 Trk.cells A n (trn ks vs k)) ∧ Hid (∀ ad, A = some ad → w.heap.size + 2 ≤ ad.block) ∧ Below w.heap.size w wr ∧ w.heap.size + 1 < wr.heap.size) (fun i _ => 40 - (intOf i).toNat)
  case atStart => exact ⟨0, none, 0, 0, by omega, rfl, by simp, by simp, by simp [World.cell?_alloc_lt], by rw [frozen_old _ _ _ _ (by simp)]; simp, Sl.nil, (by intro ad h; cases h), (by repeat (first | (with_reducible exact (Below.refl _ _)) | (with_reducible refine Below.drew ?_) | (with_reducible refine below_drewN ?_ _) | (with_reducible refine Below.setCell ?_ ?_ _; rotate_left; (simp <;> omega)) | (with_reducible refine Below.alloc ?_ ?_ _; rotate_left; (simp <;> omega)))), by simp⟩
  case round =>
    obtain ⟨k, A, n, c, hk40, rfl, hp, hpf, hr, hrf, hs, hlo, hb, hz⟩ := hrel
    by_cases h1 : k < kn
    · by_cases h2 : k < vn
      · by_cases h3 : k < 40
        · obtain ⟨kb, ko, rfl, hkb, hkat⟩ := hk.at_ (by omega)
          obtain ⟨vb, vo, rfl, hvb, hvat⟩ := hv.at_ (by omega)
          obtain ⟨q, hq⟩ : ∃ q, ks[k]? = some q := ⟨_, List.getElem?_eq_getElem (by rw [HK.out]; exact h1)⟩
          obtain ⟨x, hx⟩ : ∃ x, vs[k]? = some x := ⟨_, List.getElem?_eq_getElem (by rw [HV.out]; exact h2)⟩
          have c0 : wr.cell? ⟨kb, ko + k, none⟩ = some (.int .u8 q) := by have h := (hb.cell (p := ⟨kb, ko + (k * 1 + 0), none⟩) hkb).trans (hkat k q hq 0 _ rfl); rwa [Nat.mul_one, Nat.add_zero] at h
          have d0 : wr.cell? ⟨vb, vo + k * 2, none⟩ = some (.bool x.ref) := (hb.cell (p := ⟨vb, _, none⟩) hvb).trans (hvat k x hx 0 _ rfl)
          have d1 : wr.cell? ⟨vb, vo + k * 2 + 1, none⟩ = some (.int .i64 x.n) := (hb.cell (p := ⟨vb, _, none⟩) hvb).trans (hvat k x hx 1 _ rfl)
          obtain ⟨hq0, hq1⟩ := HKS.out k q hq
          have hz0 : w.heap.size < wr.heap.size := by omega
          go_wp2
          go_still_tail 11, (by kernel_rfl)
          change wpList _ _ _ _ _ wr.drew
          go_wp2_with fail
          have htr : train (trn ks vs k) (q % 16) x = trn ks vs (k + 1) := by
            simp only [trn]
            rw [List.getD_eq_getElem?_getD, List.getD_eq_getElem?_getD, hq, hx]; rfl
          have HTR := Lib.hid htr
          clear htr
          have hsd : Sl wr.drew wr.drew.heap.size 5 Trk.cells A n (trn ks vs k) := hs.out.below (Below.drew (Below.refl _ _))
          refine (reftrain_any A n c (trn ks vs k) (q % 16) x wr.drew hsd (by have := (trn_good ks vs k).2; have := hs.out.len; omega) (trn_good ks vs k).1).mono ?_
          rintro e w2 ⟨A2, n2, c2, rfl, hs2, hb2, hlo2⟩
          have hz2 : wr.heap.size ≤ w2.heap.size := hb2.size
          rw [HTR.out] at hs2
          have p2 := (hb2.cell (p := ⟨w.heap.size + 1, 0, none⟩) hz).trans hp
          have p3 := (hb2.frozen (p := ⟨w.heap.size + 1, 0, none⟩) hz).trans hpf
          have r2 := (hb2.cell (p := ⟨w.heap.size, 0, none⟩) hz0).trans hr
          have r3 := (hb2.frozen (p := ⟨w.heap.size, 0, none⟩) hz0).trans hrf
          have hb3 : Below w.heap.size w w2 := hb.trans (Below.trans (Below.drew (Below.refl _ _)) (hb2.mono (by show _ ≤ wr.heap.size; omega)))
          have HS2 := Lib.hid hs2
          have HL2 : Hid (∀ ad, A2 = some ad → w.heap.size + 2 ≤ ad.block) := fun ad h => by have h := hlo2 ad h; have h' : wr.heap.size ≤ ad.block := h; omega
          clear hs2 hlo2
          go_wp2
          go_roundw
          case rel =>
            refine ⟨k + 1, A2, n2, c2, by omega, by go_num, by simp [go_sem, p2], by simp [p3], by simp [go_sem, r2], by simp [r3], ?_, HL2, (by repeat (first | (with_reducible exact hb3) | (with_reducible refine Below.drew ?_) | (with_reducible refine below_drewN ?_ _) | (with_reducible refine Below.setCell ?_ ?_ _; rotate_left; (simp <;> omega)) | (with_reducible refine Below.alloc ?_ ?_ _; rotate_left; (simp <;> omega)))), by simp; omega⟩
            exact Sl.set (p := ⟨w.heap.size + 1, 0, none⟩) (B := w2.heap.size) HS2.out (fun ad h => by have := HL2.out ad h; show ad.block ≠ w.heap.size + 1; omega) _ |>.mono (by simp)
          case measure => simp [intOf]; omega
        · go_wp2
          refine bodyPost_ret (v := .agg #[.slice A n c]) (by simp [results, Try.results18, go_sem, hr]) rfl ⟨_, (trn_good ks vs k).1, by have := (trn_good ks vs k).2; omega, A, n, c, rfl, ?_, (by repeat (first | (with_reducible exact hb) | (with_reducible refine Below.drew ?_) | (with_reducible refine below_drewN ?_ _) | (with_reducible refine Below.setCell ?_ ?_ _; rotate_left; (simp <;> omega)) | (with_reducible refine Below.alloc ?_ ?_ _; rotate_left; (simp <;> omega)))), fun ad h => by have := hlo.out ad h; omega⟩
          exact (Sl.set (p := ⟨w.heap.size, 0, none⟩) hs.out (fun ad h => by have := hlo.out ad h; show ad.block ≠ w.heap.size; omega) _).mono (by simp)
      · go_wp2
        refine bodyPost_ret (v := .agg #[.slice A n c]) (by simp [results, Try.results18, go_sem, hr]) rfl ⟨_, (trn_good ks vs k).1, by have := (trn_good ks vs k).2; omega, A, n, c, rfl, ?_, (by repeat (first | (with_reducible exact hb) | (with_reducible refine Below.drew ?_) | (with_reducible refine below_drewN ?_ _) | (with_reducible refine Below.setCell ?_ ?_ _; rotate_left; (simp <;> omega)) | (with_reducible refine Below.alloc ?_ ?_ _; rotate_left; (simp <;> omega)))), fun ad h => by have := hlo.out ad h; omega⟩
        exact (Sl.set (p := ⟨w.heap.size, 0, none⟩) hs.out (fun ad h => by have := hlo.out ad h; show ad.block ≠ w.heap.size; omega) _).mono (by simp)
    · go_wp2
      refine bodyPost_ret (v := .agg #[.slice A n c]) (by simp [results, Try.results18, go_sem, hr]) rfl ⟨_, (trn_good ks vs k).1, by have := (trn_good ks vs k).2; omega, A, n, c, rfl, ?_, (by repeat (first | (with_reducible exact hb) | (with_reducible refine Below.drew ?_) | (with_reducible refine below_drewN ?_ _) | (with_reducible refine Below.setCell ?_ ?_ _; rotate_left; (simp <;> omega)) | (with_reducible refine Below.alloc ?_ ?_ _; rotate_left; (simp <;> omega)))), fun ad h => by have := hlo.out ad h; omega⟩
      exact (Sl.set (p := ⟨w.heap.size, 0, none⟩) hs.out (fun ad h => by have := hlo.out ad h; show ad.block ≠ w.heap.size; omega) _).mono (by simp)
end Go.Proofs.Ytjioipecaemckaa
