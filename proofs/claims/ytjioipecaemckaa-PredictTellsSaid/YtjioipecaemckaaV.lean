/- The law of what a predictor tells, walked. -/
import Derived.Test.YtjioipecaemckaaO
import Derived.Test.YtjioipecaemckaaPlain3
import Derived.Deep.DeepCutAuto
import Derived.Deep.LoopGhost
import Derived.Deep.RegionWith
import Derived.Deep.RegionHeld3
namespace Go.Proofs.Ytjioipecaemckaa
open Go.RowKit

theorem Sl.set_pos {α : Type} {w : World} {B sz : Nat} {cells : α → List Value} {A : Option Addr} {n : Nat} {l : List α} (h : Sl w B sz cells A n l) {p : Addr} (hp : 0 < n → ∀ ad, A = some ad → ad.block ≠ p.block) (u : Value) : Sl (w.setCell p u) B sz cells A n l :=
  ⟨h.len, fun hn => by
    obtain ⟨ab, ao, e, hlt, hc⟩ := h.at_ hn
    refine ⟨ab, ao, e, hlt, fun i x hx j u hu => (World.cell?_setCell_other w p _ _ (fun e2 => hp hn _ e (by rw [e2]))).trans (hc i x hx j u hu)⟩⟩

def tkey (ks : List Int) (key : Int) (i : Nat) : Int := if i % 5 = 4 then key else ks.getD i 0 % 16
def ttn (ks : List Int) (vs : List Val) (key : Int) : Nat → List Trk
  | 0 => []
  | k + 1 => train (ttn ks vs key k) (tkey ks key k) (vs.getD k ⟨false, 0⟩)
theorem ttn_good (ks : List Int) (vs : List Val) (key : Int) : ∀ k, Good (ttn ks vs key k) ∧ (ttn ks vs key k).length ≤ k
  | 0 => ⟨good_nil, by simp [ttn]⟩
  | k + 1 => by
    have ih := ttn_good ks vs key k
    exact ⟨train_good ih.1 _ _, by have := train_len (ttn ks vs key k) (tkey ks key k) (vs.getD k ⟨false, 0⟩); simp only [ttn]; omega⟩

/-- What is left behind a statement that trains and keeps the result in a variable of its own. -/
def Cut11 (W2 : World) (ts' : List Trk) (v : Value) (wx : World) : Prop :=
  ∃ g A n c, v = .pointer (some ⟨g, 0, none⟩) ∧ W2.heap.size ≤ g ∧ g < wx.heap.size ∧ wx.cell? ⟨g, 0, none⟩ = some (.slice A n c) ∧ Sl wx wx.heap.size 5 Trk.cells A n ts' ∧ Below W2.heap.size W2 wx ∧ (0 < n → ∀ ad, A = some ad → W2.heap.size ≤ ad.block)
theorem Cut11.after {W2 w3 : World} {ts' : List Trk} {A : Option Addr} {n c : Nat} (o : Nat) (hs : Sl w3 w3.heap.size 5 Trk.cells A n ts') (hb : Below W2.heap.size W2 w3) (hlo : ∀ ad, A = some ad → W2.heap.size ≤ ad.block) :
    Cut11 W2 ts' (.pointer (some ⟨w3.heap.size, 0, none⟩)) (w3.alloc (.cells #[.slice A n c] o)) :=
  ⟨w3.heap.size, A, n, c, rfl, hb.size, by simp, by simp, (hs.below ((Below.refl _ _).alloc (Nat.le_refl _) _)).mono (by simp), hb.alloc hb.size _, fun _ => hlo⟩
theorem Cut11.before {W2 W w3 : World} {ts' : List Trk} {A : Option Addr} {n c : Nat} {v0 : Value} (hW : Below W2.heap.size W2 W) (hg : W2.heap.size < W.heap.size) (hc : W.cell? ⟨W2.heap.size, 0, none⟩ = some v0) (hs : Sl w3 w3.heap.size 5 Trk.cells A n ts') (hb : Below W.heap.size W w3) (hlo : ∀ ad, A = some ad → W.heap.size ≤ ad.block) :
    Cut11 W2 ts' (.pointer (some ⟨W2.heap.size, 0, none⟩)) (w3.setCell ⟨W2.heap.size, 0, none⟩ (.slice A n c)) :=
  ⟨W2.heap.size, A, n, c, rfl, Nat.le_refl _, by have := hb.size; simp; omega, World.cell?_setCell_same _ _ _ ((hb.cell (p := ⟨W2.heap.size, 0, none⟩) hg).trans hc),
    (Sl.set_pos (p := ⟨W2.heap.size, 0, none⟩) hs (fun _ ad h => by have := hlo ad h; show ad.block ≠ W2.heap.size; omega) _).mono (by simp), (hW.trans (hb.mono (by omega))).setCell (p := ⟨W2.heap.size, 0, none⟩) (Nat.le_refl _) _, fun _ ad h => by have := hlo ad h; omega⟩

set_option maxRecDepth 100000 in
set_option maxHeartbeats 8000000 in
theorem tells_any (KA : Option Addr) (kn kc : Nat) (VA : Option Addr) (vn vc : Nat) (ks : List Int) (vs : List Val) (key start field : Int) (w : World)
    (hk : Sl w w.heap.size 1 keyCells KA kn ks) (hv : Sl w w.heap.size 2 Val.cells VA vn vs) (hkn : kn ≤ 9223372036854775807) (hvn : vn ≤ 9223372036854775807) (hks : ∀ (i : Nat) (k : Int), ks[i]? = some k → 0 ≤ k ∧ k ≤ 255) :
    Calls Try.prog 3 #[.slice KA kn kc, .slice VA vn vc, .int .i64 key, .int .i64 start, .int .i64 field] w fun e w' => e = .returned (.bool true) ∧ Below w.heap.size w w' := by
  have HK := Lib.hid hk.len
  have HV := Lib.hid hv.len
  have HKS := Lib.hid hks
  clear hks
  go_enter Try.func3, Try.ntmps3
  go_wp2_with fail
  refine (sane_any _).mono ?_
  rintro e w1 ⟨rfl, hb1⟩
  have hz1 := hb1.size
  go_wp2_with fail
  go_loopg [12] 40 (fun gk i wr => ∃ (k : Nat) (A : Option Addr) (n c : Nat), k + gk = 40 ∧ i = .int .i64 k ∧ wr.cell? ⟨w1.heap.size, 0, none⟩ = some (.slice A n c) ∧ wr.frozen? ⟨w1.heap.size, 0, none⟩ = false ∧ Hid (Sl wr wr.heap.size 5 Trk.cells A n (ttn ks vs key k)) ∧ Hid (0 < n → ∀ ad, A = some ad → ad.block ≠ w1.heap.size) ∧ Below w.heap.size w wr ∧ w1.heap.size < wr.heap.size)
  case atStart => exact ⟨0, none, 0, 0, by omega, rfl, by simp, by simp, Sl.nil, (fun h => absurd h (by omega)), hb1.alloc hz1 _, by simp⟩
  case round =>
    obtain ⟨k, A, n, c, hk40, rfl, hp, hpf, hs, hne, hb, hz⟩ := hrel
    by_cases hlt : k < kn ∧ k < vn ∧ k < 40
    · obtain ⟨h1, h2, h3⟩ := hlt
      · · obtain ⟨kb, ko, rfl, hkb, hkat⟩ := hk.at_ (by omega)
          obtain ⟨vb, vo, rfl, hvb, hvat⟩ := hv.at_ (by omega)
          obtain ⟨q, hq⟩ : ∃ q, ks[k]? = some q := ⟨_, List.getElem?_eq_getElem (by rw [HK.out]; exact h1)⟩
          obtain ⟨x, hx⟩ : ∃ x, vs[k]? = some x := ⟨_, List.getElem?_eq_getElem (by rw [HV.out]; exact h2)⟩
          have c0 : wr.cell? ⟨kb, ko + k, none⟩ = some (.int .u8 q) := by have h := (hb.cell (p := ⟨kb, ko + (k * 1 + 0), none⟩) hkb).trans (hkat k q hq 0 _ rfl); rwa [Nat.mul_one, Nat.add_zero] at h
          have d0 : w.cell? ⟨vb, vo + k * 2, none⟩ = some (.bool x.ref) := hvat k x hx 0 _ rfl
          have d1 : w.cell? ⟨vb, vo + k * 2 + 1, none⟩ = some (.int .i64 x.n) := hvat k x hx 1 _ rfl
          obtain ⟨hq0, hq1⟩ := HKS.out k q hq
          have htr : train (ttn ks vs key k) (tkey ks key k) x = ttn ks vs key (k + 1) := by
            simp only [ttn]
            rw [List.getD_eq_getElem?_getD, hx]; rfl
          have htk : tkey ks key k = if k % 5 = 4 then key else q % 16 := by
            unfold tkey; rw [List.getD_eq_getElem?_getD, hq]; rfl
          have HTR := Lib.hid htr
          have HG := Lib.hid (ttn_good ks vs key k)
          clear htr hq hx hkat hvat
          have hn40 : n ≤ 40 := by rw [← hs.out.len]; have := HG.out.2; omega
          obtain ⟨kk, hkk⟩ : ∃ kk, kk = tkey ks key k := ⟨_, rfl⟩
          have HKK := Lib.hid hkk
          have hcase : (((k : Int) % 5 == 4) = true ∧ kk = key) ∨ (((k : Int) % 5 == 4) = false ∧ kk = q % 16) := by
            by_cases h5 : k % 5 = 4
            · left; refine ⟨by rw [beq_iff_eq]; omega, by rw [hkk, htk, if_pos h5]⟩
            · right; refine ⟨by rw [beq_eq_false_iff_ne]; omega, by rw [hkk, htk, if_neg h5]⟩
          clear hkk htk
          go_upto_if 58 with fail
          go_cut [13] (fun s13 wx => s13 = .int .i64 kk ∧ wr = wx)
          case first =>
            rcases hcase with ⟨h5, h6⟩ | ⟨h5, h6⟩
            · subst h6
              go_wp2
              go_meet
              exact ⟨rfl, rfl⟩
            · subst h6
              go_wp2
              go_meet
              exact ⟨rfl, rfl⟩
          case rest =>
            obtain ⟨rfl, rfl⟩ := hcut
            go_wp2_with fail
            refine (keep_any A n c _ wr hs.out (by omega)).mono ?_
            rintro e w2 ⟨A2, c2, rfl, hs2, hb2⟩
            have hz2 := hb2.size
            have p2 := (hb2.cell (p := ⟨w1.heap.size, 0, none⟩) hz).trans hp
            have p2f := (hb2.frozen (p := ⟨w1.heap.size, 0, none⟩) hz).trans hpf
            have hbw2 : Below w.heap.size w w2 := hb.trans (hb2.mono hb.size)
            have hsp2 := (hs.out.below hb2).mono hz2
            go_wp2_with fail
            obtain ⟨W2, hW2⟩ : ∃ W2, W2 = w2.alloc (.cells #[.slice A2 n c2] 27) := ⟨_, rfl⟩
            rw [← hW2]
            have hZ2 : W2.heap.size = w2.heap.size + 1 := by rw [hW2]; simp
            have hb2W : Below w2.heap.size w2 W2 := by rw [hW2]; exact (Below.refl _ _).alloc (Nat.le_refl _) _
            have k2 : W2.cell? ⟨w2.heap.size, 0, none⟩ = some (.slice A2 n c2) := by rw [hW2]; simp
            have hl12 : w1.heap.size < w2.heap.size := by omega
            have p2 := (hb2W.cell (p := ⟨w1.heap.size, 0, none⟩) hl12).trans p2
            have p2f := (hb2W.frozen (p := ⟨w1.heap.size, 0, none⟩) hl12).trans p2f
            have hbW2 : Below w.heap.size w W2 := hbw2.trans (hb2W.mono hbw2.size)
            have e0 := (hbW2.cell (p := ⟨vb, vo + k * 2, none⟩) hvb).trans d0
            have e1 := (hbW2.cell (p := ⟨vb, vo + k * 2 + 1, none⟩) hvb).trans d1
            have hsk : Sl W2 W2.heap.size 5 Trk.cells A2 n (ttn ks vs key k) := (hs2.below hb2W).mono hb2W.size
            have hsp : Sl W2 W2.heap.size 5 Trk.cells A n (ttn ks vs key k) := (hsp2.below hb2W).mono hb2W.size
            have HZ2 := Lib.hid hZ2
            have HSK := Lib.hid hsk
            have HSP := Lib.hid hsp
            clear hW2 hZ2 hsk hsp hs2 hsp2
            have hsd : Sl W2.drew W2.drew.heap.size 5 Trk.cells A n (ttn ks vs key k) := HSP.out.below (Below.drew (Below.refl _ _))
            have hsd2 : ∀ o, Sl (W2.alloc o).drew (W2.alloc o).drew.heap.size 5 Trk.cells A n (ttn ks vs key k) := fun o => (HSP.out.below (Below.drew ((Below.refl _ _).alloc (Nat.le_refl _) o))).mono (by show _ ≤ (W2.alloc o).heap.size; simp)
            have hl1W : w1.heap.size < W2.heap.size := by have := HZ2.out; omega
            have hvbW : vb < W2.heap.size := by have := hbW2.size; omega
            have mf : ∀ w3, Below (W2.alloc (.cells #[.slice none 0 0] 27)).drew.heap.size (W2.alloc (.cells #[.slice none 0 0] 27)).drew w3 → w3.cell? ⟨W2.heap.size, 0, none⟩ = some (.slice none 0 0) ∧ w3.frozen? ⟨W2.heap.size, 0, none⟩ = false := fun w3 hb =>
              have hl : W2.heap.size < (W2.alloc (.cells #[.slice none 0 0] 27)).drew.heap.size := by show _ < (W2.alloc _).heap.size; simp
              ⟨(hb.cell (p := ⟨W2.heap.size, 0, none⟩) hl).trans (by show (W2.alloc _).cell? _ = _; simp), (hb.frozen (p := ⟨W2.heap.size, 0, none⟩) hl).trans (by show (W2.alloc _).frozen? _ = _; simp)⟩
            have HL1 := Lib.hid hl1W
            go_cut [15] (fun s15 wx => Cut11 W2 (ttn ks vs key (k + 1)) s15 wx)
            case first =>
              go_region_with (first
                | (go_at_call 9; refine (train_any A n c _ kk x W2.drew hsd (by omega) HG.out.1).mono ?_; rintro e w3 ⟨A3, n3, c3, rfl, hs3, hb3, hlo3⟩)
                | (go_at_call 9; refine (train_any A n c _ kk x (W2.alloc (.cells #[.slice none 0 0] 27)).drew (hsd2 _) (by omega) HG.out.1).mono ?_; rintro e w3 ⟨A3, n3, c3, rfl, hs3, hb3, hlo3⟩; obtain ⟨m0, m1⟩ := mf _ hb3))
              all_goals
                rw [HKK.out, HTR.out] at hs3
                go_wp2_with fail
                go_meet
                first
                  | exact Cut11.after _ hs3 ((Below.drew (Below.refl _ _)).trans hb3) hlo3
                  | exact Cut11.before (v0 := .slice none 0 0) (W := (W2.alloc (.cells #[.slice none 0 0] 27)).drew) (Below.drew ((Below.refl _ _).alloc (Nat.le_refl _) _)) (by show _ < (W2.alloc _).heap.size; simp) (by show (W2.alloc _).cell? _ = _; simp) hs3 hb3 hlo3
            case rest =>
              obtain ⟨g, A3, n3, c3, rfl, hg0, hg1, q3, hs3, hbc, hlo3⟩ := hcut
              rename World => wd
              have hn3 : n3 ≤ 41 := by have := hs3.len; have := (ttn_good ks vs key (k + 1)).2; omega
              have p3 := (hbc.cell (p := ⟨w1.heap.size, 0, none⟩) HL1.out).trans p2
              have p3f := (hbc.frozen (p := ⟨w1.heap.size, 0, none⟩) HL1.out).trans p2f
              have k3 := (hbc.cell (p := ⟨w2.heap.size, 0, none⟩) (by show w2.heap.size < W2.heap.size; have := HZ2.out; omega)).trans k2
              have hbwc : Below w.heap.size w wd := hbW2.trans (hbc.mono hbW2.size)
              have e0c := (hbwc.cell (p := ⟨vb, vo + k * 2, none⟩) hvb).trans d0
              have e1c := (hbwc.cell (p := ⟨vb, vo + k * 2 + 1, none⟩) hvb).trans d1
              have HSK3 := Lib.hid ((HSK.out.below hbc).mono hbc.size)
              have HSP3 := Lib.hid ((HSP.out.below hbc).mono hbc.size)
              have HS3 := Lib.hid hs3
              have HLO3 := Lib.hid hlo3
              have hg1' : w1.heap.size < g := by have := HL1.out; omega
              have hgw : w1.heap.size < wd.heap.size := by omega
              clear hs3 hlo3 p2 p2f k2 e0 e1 hsd hsd2 mf
              go_wp2_with fail
              go_cut [84] (fun s84 wx => s84 = .bool false ∧ Hid (Below wd.heap.size wd wx))
              case first =>
                have hlg : g < wd.heap.size := hg1
                have hlk : w2.heap.size < wd.heap.size := by have := HZ2.out; have := hbc.size; omega
                have hlv : vb < wd.heap.size := by have := hbwc.size; omega
                have S0 : Sl wd.drew wd.drew.heap.size 5 Trk.cells A n (ttn ks vs key k) := HSP3.out.below (Below.drew (Below.refl _ _))
                go_region_held3 (fun w' => w'.cell? ⟨g, 0, none⟩ = some (.slice A3 n3 c3) ∧ w'.cell? ⟨w1.heap.size, 0, none⟩ = some (.slice A n c) ∧ w'.cell? ⟨w2.heap.size, 0, none⟩ = some (.slice A2 n c2) ∧ w'.cell? ⟨vb, vo + k * 2, none⟩ = some (.bool x.ref) ∧ w'.cell? ⟨vb, vo + k * 2 + 1, none⟩ = some (.int .i64 x.n))
                  (first | exact ⟨q3, p3, k3, e0c, e1c⟩ | exact ⟨q4, p4, k4, e04, e14⟩ | exact ⟨q5, p5, k5, e05, e15⟩ | exact ⟨q6, p6, k6, e06, e16⟩)
                  (first
                    | (go_at_call 11; refine (reftrain_any A n c _ kk x wd.drew S0 (by omega) HG.out.1).mono ?_; rintro e w4 ⟨A4, n4, c4, rfl, hs4, hb4, hlo4⟩; rw [HKK.out, HTR.out] at hs4; have hn4 : n3 = n4 := (by rw [← hs4.len, ← HS3.out.len]); subst hn4; have hb4 : Below wd.heap.size wd w4 := (Below.drew (Below.refl _ _)).trans hb4; have hz4 := hb4.size; have q4 := (hb4.cell (p := ⟨g, 0, none⟩) hlg).trans q3; have p4 := (hb4.cell (p := ⟨w1.heap.size, 0, none⟩) hgw).trans p3; have k4 := (hb4.cell (p := ⟨w2.heap.size, 0, none⟩) hlk).trans k3; have e04 := (hb4.cell (p := ⟨vb, vo + k * 2, none⟩) hlv).trans e0c; have e14 := (hb4.cell (p := ⟨vb, vo + k * 2 + 1, none⟩) hlv).trans e1c; have HS4 := Lib.hid hs4; have HS34 := Lib.hid ((HS3.out.below hb4).mono hz4); clear hs4 hlo4)
                    | (go_at_call_of 10 (Value.agg #[Value.slice A3 n3 c3]); refine (same_any A3 n3 c3 A4 c4 _ w4 HS34.out HS4.out (by omega)).mono ?_; rintro e w5 ⟨rfl, hb5⟩; have hb5 : Below wd.heap.size wd w5 := hb4.trans (hb5.mono hz4); have q5 := (hb5.cell (p := ⟨g, 0, none⟩) hlg).trans q3; have p5 := (hb5.cell (p := ⟨w1.heap.size, 0, none⟩) hgw).trans p3; have k5 := (hb5.cell (p := ⟨w2.heap.size, 0, none⟩) hlk).trans k3; have e05 := (hb5.cell (p := ⟨vb, vo + k * 2, none⟩) hlv).trans e0c; have e15 := (hb5.cell (p := ⟨vb, vo + k * 2 + 1, none⟩) hlv).trans e1c)
                    | (go_at_call_of 10 (Value.agg #[Value.slice A n c]); refine (same_any A n c A2 c2 _ w5 ((HSP3.out.below hb5).mono hb5.size) ((HSK3.out.below hb5).mono hb5.size) (by omega)).mono ?_; rintro e w6 ⟨rfl, hb6⟩; have hb6 : Below wd.heap.size wd w6 := hb5.trans (hb6.mono hb5.size); have q6 := (hb6.cell (p := ⟨g, 0, none⟩) hlg).trans q3; have p6 := (hb6.cell (p := ⟨w1.heap.size, 0, none⟩) hgw).trans p3; have k6 := (hb6.cell (p := ⟨w2.heap.size, 0, none⟩) hlk).trans k3; have e06 := (hb6.cell (p := ⟨vb, vo + k * 2, none⟩) hlv).trans e0c; have e16 := (hb6.cell (p := ⟨vb, vo + k * 2 + 1, none⟩) hlv).trans e1c))
                all_goals
                  go_wp2_with fail
                  go_meet
                  exact ⟨rfl, hb6⟩
              case rest =>
                obtain ⟨rfl, hb6⟩ := hcut
                rename World => w6
                have p6 := (hb6.out.cell (p := ⟨w1.heap.size, 0, none⟩) hgw).trans p3
                have p6f := (hb6.out.frozen (p := ⟨w1.heap.size, 0, none⟩) hgw).trans p3f
                have q6 := (hb6.out.cell (p := ⟨g, 0, none⟩) hg1).trans q3
                have hbw6 : Below w.heap.size w w6 := hbwc.trans (hb6.out.mono hbwc.size)
                have HS6 := Lib.hid ((HS3.out.below hb6.out).mono hb6.out.size)
                have hz6 := hb6.out.size
                go_wp2
                go_roundg (gk - 1)
                case measure => omega
                case rel =>
                  refine ⟨k + 1, A3, n3, c3, by omega, by go_num, by simp [go_sem, p6], by simp [p6f], ?_, fun h0 ad h => by have := HLO3.out h0 ad h; have := HL1.out; omega, hbw6.setCell (p := ⟨w1.heap.size, 0, none⟩) (by show w.heap.size ≤ w1.heap.size; omega) _, by simp; omega⟩
                  exact (Sl.set_pos (p := ⟨w1.heap.size, 0, none⟩) HS6.out (fun h0 ad h => by have := HLO3.out h0 ad h; have := HL1.out; show ad.block ≠ w1.heap.size; omega) _).mono (by simp)
    · have hcases : (¬ k < kn) ∨ (k < kn ∧ ¬ k < vn) ∨ (k < kn ∧ k < vn ∧ ¬ k < 40) := by omega
      clear hlt
      have HG := Lib.hid (ttn_good ks vs key k)
      have hn40 : n ≤ 40 := by rw [← hs.out.len]; have := HG.out.2; omega
      rcases hcases with h1 | ⟨h1, h2⟩ | ⟨h1, h2, h3⟩
      all_goals
        go_wp2_with fail
        obtain ⟨kb, hkb⟩ : ∃ kb, kb = bits BinOp.and IntKind.i64 key 15 := ⟨_, rfl⟩
        rw [← hkb]
        clear hkb
        obtain ⟨W1, hW1⟩ : ∃ W1, W1 = wr.alloc (.cells #[.int .i64 key, .int .i64 kb] 2) := ⟨_, rfl⟩
        rw [← hW1]
        have hZ1 : W1.heap.size = wr.heap.size + 1 := by rw [hW1]; simp
        have hbW1 : Below wr.heap.size wr W1 := by rw [hW1]; exact (Below.refl _ _).alloc (Nat.le_refl _) _
        have a0 : W1.cell? ⟨wr.heap.size, 0, none⟩ = some (.int .i64 key) := by rw [hW1]; simp
        have a1 : W1.cell? ⟨wr.heap.size, 1, none⟩ = some (.int .i64 kb) := by rw [hW1]; simp
        have HSW := Lib.hid ((hs.out.below hbW1).mono hbW1.size)
        have pW := (hbW1.cell (p := ⟨w1.heap.size, 0, none⟩) hz).trans hp
        have hbwW := hb.trans (hbW1.mono hb.size)
        have HZ1 := Lib.hid hZ1
        have hl1 : w1.heap.size < W1.heap.size := by omega
        have ha01 : ∀ m : Nat, m < 2 → ∃ kq, W1.cell? ⟨wr.heap.size, m, none⟩ = some (.int .i64 kq) := fun m hm => by
          match m, hm with
          | 0, _ => exact ⟨_, a0⟩
          | 1, _ => exact ⟨_, a1⟩
        have HA := Lib.hid ha01
        clear hW1 hZ1 a0 a1 ha01 hp hpf
        go_loopg [91] 2 (fun gk i wx => ∃ m : Nat, m + gk = 2 ∧ i = .int .i64 m ∧ Hid (Below W1.heap.size W1 wx))
        case atStart => exact ⟨0, rfl, rfl, Below.refl _ _⟩
        case round =>
          obtain ⟨m, hm, rfl, hbx⟩ := hrel
          rename World => wx
          have hzx := hbx.out.size
          have px := (hbx.out.cell (p := ⟨w1.heap.size, 0, none⟩) hl1).trans pW
          have hbwx : Below w.heap.size w wx := hbwW.trans (hbx.out.mono hbwW.size)
          have hsx := (HSW.out.below hbx.out).mono hbx.out.size
          have HSX := Lib.hid hsx
          clear hsx
          by_cases hm2 : m < 2
          · obtain ⟨kq, hkq⟩ := HA.out m hm2
            have kx := (hbx.out.cell (p := ⟨wr.heap.size, m, none⟩) (by show wr.heap.size < _; have := HZ1.out; omega)).trans hkq
            clear hkq
            go_wp2_with fail
            refine (last_any A n c _ kq wx HSX.out (by omega) HG.out.1.1).mono ?_
            rintro e x1 ⟨rfl, hc1⟩
            have p1 := (hc1.cell (p := ⟨w1.heap.size, 0, none⟩) (by show w1.heap.size < _; omega)).trans px
            unfold Val.value
            obtain ⟨lv, hlv⟩ : ∃ lv, lv = lastV (ttn ks vs key k) kq := ⟨_, rfl⟩
            obtain ⟨hh, hhh⟩ : ∃ hh, hh = hit (ttn ks vs key k) kq := ⟨_, rfl⟩
            obtain ⟨sv, hsv⟩ : ∃ sv, sv = strideV (ttn ks vs key k) kq := ⟨_, rfl⟩
            rw [← hlv, ← hhh]
            have HLV := Lib.hid hlv
            have HHH := Lib.hid hhh
            have HSV := Lib.hid hsv
            clear hlv hhh hsv
            have hx1 : w1.heap.size < x1.heap.size := by have := hc1.size; omega
            have hcx1 := hbx.out.trans (hc1.mono hzx)
            obtain ⟨X1, hX1⟩ : ∃ X1, X1 = x1.alloc (.cells #[.bool lv.ref, .int .i64 lv.n] 31) := ⟨_, rfl⟩
            have hbX1 : Below x1.heap.size x1 X1 := by rw [hX1]; exact (Below.refl _ _).alloc (Nat.le_refl _) _
            have u0 : X1.cell? ⟨x1.heap.size, 0, none⟩ = some (.bool lv.ref) := by rw [hX1]; simp
            have u1 : X1.cell? ⟨x1.heap.size, 1, none⟩ = some (.int .i64 lv.n) := by rw [hX1]; simp
            have hZX1 : X1.heap.size = x1.heap.size + 1 := by rw [hX1]; simp
            have p1' := (hbX1.cell (p := ⟨w1.heap.size, 0, none⟩) hx1).trans p1
            have s1 := (((HSX.out.below hc1).mono hc1.size).below hbX1).mono hbX1.size
            have HS1 := Lib.hid s1
            have HX1 := Lib.hid hX1
            clear s1 hX1
            go_wp2_with fail
            rw [← HX1.out]
            refine (reflast_any A n c _ kq X1 HS1.out (by omega)).mono ?_
            rintro e x2 ⟨rfl, hc2⟩
            unfold Val.value
            rw [← HLV.out, ← HHH.out]
            have hx2 : x1.heap.size + 1 ≤ x2.heap.size := by have := hc2.size; omega
            have p2 := (hc2.cell (p := ⟨w1.heap.size, 0, none⟩) (by show w1.heap.size < _; omega)).trans p1'
            have u0 := (hc2.cell (p := ⟨x1.heap.size, 0, none⟩) (by show x1.heap.size < _; omega)).trans u0
            have u1 := (hc2.cell (p := ⟨x1.heap.size, 1, none⟩) (by show x1.heap.size < _; omega)).trans u1
            have hl12 : w1.heap.size < x2.heap.size := by omega
            have hl12' : x1.heap.size < x2.heap.size := by omega
            obtain ⟨X2, hX2⟩ : ∃ X2, X2 = x2.alloc (.cells #[.bool lv.ref, .int .i64 lv.n] 31) := ⟨_, rfl⟩
            have hbX2 : Below x2.heap.size x2 X2 := by rw [hX2]; exact (Below.refl _ _).alloc (Nat.le_refl _) _
            have v0 : X2.cell? ⟨x2.heap.size, 0, none⟩ = some (.bool lv.ref) := by rw [hX2]; simp
            have v1 : X2.cell? ⟨x2.heap.size, 1, none⟩ = some (.int .i64 lv.n) := by rw [hX2]; simp
            have hZX2 : X2.heap.size = x2.heap.size + 1 := by rw [hX2]; simp
            have p2' := (hbX2.cell (p := ⟨w1.heap.size, 0, none⟩) hl12).trans p2
            have u0' := (hbX2.cell (p := ⟨x1.heap.size, 0, none⟩) hl12').trans u0
            have u1' := (hbX2.cell (p := ⟨x1.heap.size, 1, none⟩) hl12').trans u1
            have HS2 := Lib.hid ((((HS1.out.below hc2).mono hc2.size).below hbX2).mono hbX2.size)
            have HX2 := Lib.hid hX2
            clear hX2 p1' u0 u1
            go_wp2_with fail
            rw [← HX2.out]
            refine (stride_any A n c _ kq X2 HS2.out (by omega) HG.out.1.1).mono ?_
            rintro e x3 ⟨rfl, hc3⟩
            unfold Val.value
            rw [← HSV.out, ← HHH.out]
            have hx3 : x2.heap.size + 1 ≤ x3.heap.size := by have := hc3.size; omega
            have p3 := (hc3.cell (p := ⟨w1.heap.size, 0, none⟩) (by show w1.heap.size < _; omega)).trans p2'
            have u0 := (hc3.cell (p := ⟨x1.heap.size, 0, none⟩) (by show x1.heap.size < _; omega)).trans u0'
            have u1 := (hc3.cell (p := ⟨x1.heap.size, 1, none⟩) (by show x1.heap.size < _; omega)).trans u1'
            have v0 := (hc3.cell (p := ⟨x2.heap.size, 0, none⟩) (by show x2.heap.size < _; omega)).trans v0
            have v1 := (hc3.cell (p := ⟨x2.heap.size, 1, none⟩) (by show x2.heap.size < _; omega)).trans v1
            have hl13 : w1.heap.size < x3.heap.size := by omega
            have hl13' : x1.heap.size < x3.heap.size := by omega
            have hl23' : x2.heap.size < x3.heap.size := by omega
            obtain ⟨X3, hX3⟩ : ∃ X3, X3 = x3.alloc (.cells #[.bool sv.ref, .int .i64 sv.n] 31) := ⟨_, rfl⟩
            have hbX3 : Below x3.heap.size x3 X3 := by rw [hX3]; exact (Below.refl _ _).alloc (Nat.le_refl _) _
            have y0 : X3.cell? ⟨x3.heap.size, 0, none⟩ = some (.bool sv.ref) := by rw [hX3]; simp
            have y1 : X3.cell? ⟨x3.heap.size, 1, none⟩ = some (.int .i64 sv.n) := by rw [hX3]; simp
            have hZX3 : X3.heap.size = x3.heap.size + 1 := by rw [hX3]; simp
            have u0' := (hbX3.cell (p := ⟨x1.heap.size, 0, none⟩) hl13').trans u0
            have u1' := (hbX3.cell (p := ⟨x1.heap.size, 1, none⟩) hl13').trans u1
            have v0' := (hbX3.cell (p := ⟨x2.heap.size, 0, none⟩) hl23').trans v0
            have v1' := (hbX3.cell (p := ⟨x2.heap.size, 1, none⟩) hl23').trans v1
            have HS3 := Lib.hid ((((HS2.out.below hc3).mono hc3.size).below hbX3).mono hbX3.size)
            have HX3 := Lib.hid hX3
            clear hX3 p2' u0 u1 v0 v1
            go_wp2_with fail
            rw [← HX3.out]
            refine (refstride_any A n c _ kq X3 HS3.out (by omega)).mono ?_
            rintro e x4 ⟨rfl, hc4⟩
            unfold Val.value
            rw [← HSV.out, ← HHH.out]
            have hx4 : x3.heap.size + 1 ≤ x4.heap.size := by have := hc4.size; omega
            have u0 := (hc4.cell (p := ⟨x1.heap.size, 0, none⟩) (by show x1.heap.size < _; omega)).trans u0'
            have u1 := (hc4.cell (p := ⟨x1.heap.size, 1, none⟩) (by show x1.heap.size < _; omega)).trans u1'
            have v0 := (hc4.cell (p := ⟨x2.heap.size, 0, none⟩) (by show x2.heap.size < _; omega)).trans v0'
            have v1 := (hc4.cell (p := ⟨x2.heap.size, 1, none⟩) (by show x2.heap.size < _; omega)).trans v1'
            have y0 := (hc4.cell (p := ⟨x3.heap.size, 0, none⟩) (by show x3.heap.size < _; omega)).trans y0
            have y1 := (hc4.cell (p := ⟨x3.heap.size, 1, none⟩) (by show x3.heap.size < _; omega)).trans y1
            have hl14 : x1.heap.size < x4.heap.size := by omega
            have hl24 : x2.heap.size < x4.heap.size := by omega
            have hl34 : x3.heap.size < x4.heap.size := by omega
            have zz1 := hc1.size
            have zz2 := hc2.size
            have zz3 := hc3.size
            have zz4 := hc4.size
            have hfin : Below W1.heap.size W1 x4 := (((hcx1.trans (hbX1.mono (by omega))).trans (hc2.mono (by omega))).trans ((hbX2.mono (by omega)).trans (hc3.mono (by omega)))).trans ((hbX3.mono (by omega)).trans (hc4.mono (by omega)))
            clear u0' u1' v0' v1'
            go_wp2
            go_roundg (gk - 1)
            case measure => omega
            case rel => exact ⟨m + 1, by omega, by go_num, hfin.alloc (by omega) _⟩
          · have hbwx2 : Below w.heap.size w wx := hbwx
            go_wp2_with fail
            obtain ⟨W5, hW5⟩ : ∃ W5, W5 = wx.alloc (.cells #[.int .i64 start, .int .i64 field, .int .i64 (start.tmod 3000), .int .i64 (field.tmod 300)] 36) := ⟨_, rfl⟩
            rw [← hW5]
            have hZ5 : W5.heap.size = wx.heap.size + 1 := by rw [hW5]; simp
            have hbw5 : Below w.heap.size w W5 := by rw [hW5]; exact hbwx.alloc hbwx.size _
            have a0 : W5.cell? ⟨wx.heap.size, 0, none⟩ = some (.int .i64 start) := by rw [hW5]; simp
            have a1 : W5.cell? ⟨wx.heap.size, 1, none⟩ = some (.int .i64 field) := by rw [hW5]; simp
            have a2 : W5.cell? ⟨wx.heap.size, 2, none⟩ = some (.int .i64 (start.tmod 3000)) := by rw [hW5]; simp
            have a3 : W5.cell? ⟨wx.heap.size, 3, none⟩ = some (.int .i64 (field.tmod 300)) := by rw [hW5]; simp
            have ha : ∀ q : Nat, q < 2 → ∃ c0 c1, W5.cell? ⟨wx.heap.size, q * 2, none⟩ = some (.int .i64 c0) ∧ W5.cell? ⟨wx.heap.size, q * 2 + 1, none⟩ = some (.int .i64 c1) := fun q hq => by
              match q, hq with
              | 0, _ => exact ⟨_, _, a0, a1⟩
              | 1, _ => exact ⟨_, _, a2, a3⟩
            have HA5 := Lib.hid ha
            have HZ5 := Lib.hid hZ5
            clear hW5 hZ5 a0 a1 a2 a3 ha
            go_loopg [148] 2 (fun gk i wy => ∃ q : Nat, q + gk = 2 ∧ i = .int .i64 q ∧ Hid (Below W5.heap.size W5 wy))
            case atStart => exact ⟨0, rfl, rfl, Below.refl _ _⟩
            case round =>
              obtain ⟨q, hq, rfl, hby⟩ := hrel
              rename World => wy
              have hzy := hby.out.size
              have hbwy : Below w.heap.size w wy := hbw5.trans (hby.out.mono hbw5.size)
              by_cases hq2 : q < 2
              · obtain ⟨c0, c1, g0, g1⟩ := HA5.out q hq2
                have y0 := (hby.out.cell (p := ⟨wx.heap.size, q * 2, none⟩) (by show wx.heap.size < _; have := HZ5.out; omega)).trans g0
                have y1 := (hby.out.cell (p := ⟨wx.heap.size, q * 2 + 1, none⟩) (by show wx.heap.size < _; have := HZ5.out; omega)).trans g1
                clear g0 g1
                go_wp2_with fail
                obtain ⟨ka, kc', hkv⟩ : ∃ ka kc', keyV c0 c1 = .tuple #[.int .i64 ka, .int .i64 kc'] := ⟨_, _, rfl⟩
                have HKV := Lib.hid hkv
                clear hkv
                have f0 : (wy.alloc (.cells #[.int .i64 c0, .int .i64 c1] 36)).cell? ⟨wy.heap.size, 0, none⟩ = some (.int .i64 c0) := by simp
                have f1 : (wy.alloc (.cells #[.int .i64 c0, .int .i64 c1] 36)).cell? ⟨wy.heap.size, 1, none⟩ = some (.int .i64 c1) := by simp
                refine (key_any c0 c1 _).mono ?_
                rintro e z1 ⟨rfl, hd1⟩
                have g0 := (hd1.cell (p := ⟨wy.heap.size, 0, none⟩) (by simp)).trans f0
                have g1 := (hd1.cell (p := ⟨wy.heap.size, 1, none⟩) (by simp)).trans f1
                have hy1 : Below wy.heap.size wy z1 := ((Below.refl _ _).alloc (Nat.le_refl _) _).trans (hd1.mono (by simp))
                rw [HKV.out]
                clear f0 f1
                go_wp2_with fail
                refine (refkey_any c0 c1 _).mono ?_
                rintro e z2 ⟨rfl, hd2⟩
                rw [HKV.out]
                have hy2 : Below W5.heap.size W5 z2 := hby.out.trans ((hy1.trans (hd2.mono hy1.size)).mono hzy)
                go_wp2
                go_roundg (gk - 1)
                case measure => omega
                case rel => exact ⟨q + 1, by omega, by go_num, hy2⟩
              · go_wp2
                go_ret
                exact ⟨rfl, hbwy⟩
end Go.Proofs.Ytjioipecaemckaa
