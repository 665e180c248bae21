/- HeapPuts, walked. -/
import Derived.Test.YtohflngcgmcllaaJ
import Derived.Test.YtohflngcgmcllaaEl
import Derived.Test.YtohflngcgmcllaaL0
import Derived.Test.YtohflngcgmcllaaS2
import Derived.Deep.DeepCutAuto
import Derived.Deep.LoopGhost
import Derived.Deep.RegionHeld3
namespace Go.Proofs.Ytohflngcgmcllaa
open Go.RowKit

theorem get_at {L : List PO} (h : ValidP L) {j : Nat} {x o : PO} (hx : L[j]? = some x) (he : o.id = x.id) : getO o.id (L.set j o) = o ∧ getB o.id (L.set j o) = true := by
  obtain ⟨h1, h2⟩ := get_idx h hx he
  simp [getO, getB, h1, h2]
theorem Hp.take {w : World} {B n k : Nat} {A : Option Addr} {l : List Ob} (h : Hp w B A n l) (hk : k ≤ n) : Hp w B A k (l.take k) := by
  refine ⟨⟨by rw [List.length_take, h.sl.len]; omega, fun h0 => ?_⟩, fun o ho => h.obs o (List.mem_of_mem_take ho)⟩
  obtain ⟨ab, ao, e, hlt, hat⟩ := h.sl.at_ (by omega)
  refine ⟨ab, ao, e, hlt, fun i x hx => ?_⟩
  rw [List.getElem?_take] at hx
  split at hx
  · exact hat i x hx
  · cases hx

/-- The cells that what was got came to. -/
def Gt1 (V : World) (k : Int) (s13 s14 : Value) (wx : World) : Prop := ∃ (g : Nat) (Aq : Option Addr) (nq cq : Nat), s13 = .pointer (some ⟨g, 0, none⟩) ∧ s14 = .bool true ∧ V.heap.size ≤ g ∧ g < wx.heap.size ∧ wx.cell? ⟨g, 0, none⟩ = some (.int .i64 k) ∧ wx.cell? ⟨g, 1, none⟩ = some (.slice Aq nq cq) ∧ nq ≤ 8796093021952 ∧ Hid (Sl wx wx.heap.size 2 Val.cells Aq nq [⟨false, 77⟩]) ∧ Below V.heap.size V wx
theorem Gt1.after {V Q : World} {k : Int} {Aq : Option Addr} {nq cq : Nat} (hb : Below V.heap.size V Q) (hn : nq ≤ 8796093021952) (hq : Hid (Sl Q Q.heap.size 2 Val.cells Aq nq [⟨false, 77⟩])) :
    Gt1 V k (.pointer (some ⟨Q.heap.size, 0, none⟩)) (.bool true) (Q.alloc (.cells #[.int .i64 k, .slice Aq nq cq] 27)) := by
  have hb2 : Below Q.heap.size Q (Q.alloc (.cells #[.int .i64 k, .slice Aq nq cq] 27)) := (Below.refl _ _).alloc (Nat.le_refl _) _
  exact ⟨_, Aq, nq, cq, rfl, rfl, hb.size, by simp, by rw [cell_new _ _ _ _ _ rfl]; rfl, by rw [cell_new _ _ _ _ _ rfl]; rfl, hn, Lib.hid (hq.out.up hb2), hb.trans (hb2.mono hb.size)⟩
theorem Gt1.before {V Q : World} {k : Int} {Aq : Option Addr} {nq cq r : Nat} {u v : Value} (hr : V.heap.size ≤ r) (hrQ : r < Q.heap.size) (hb : Below V.heap.size V Q) (h0 : Q.cell? ⟨r, 0, none⟩ = some u) (h1 : Q.cell? ⟨r, 1, none⟩ = some v) (hn : nq ≤ 8796093021952) (hq : Hid (Sl Q Q.heap.size 2 Val.cells Aq nq [⟨false, 77⟩])) (hl : ∀ ad, Aq = some ad → r < ad.block) :
    Gt1 V k (.pointer (some ⟨r, 0, none⟩)) (.bool true) ((Q.setCell ⟨r, 0, none⟩ (.int .i64 k)).setCell ⟨r, 1, none⟩ (.slice Aq nq cq)) := by
  have hg := grown2 Q r 0 1 (.int .i64 k) (.slice Aq nq cq)
  have h1' : (Q.setCell ⟨r, 0, none⟩ (.int .i64 k)).cell? ⟨r, 1, none⟩ = some v := by rw [set_other _ _ _ _ (by simp)]; exact h1
  refine ⟨r, Aq, nq, cq, rfl, rfl, hr, by simp; exact hrQ, by rw [set_other _ _ _ _ (by simp)]; exact World.cell?_setCell_same _ _ _ h0, World.cell?_setCell_same _ _ _ h1', hn, Lib.hid ((hq.out.apart (Nat.le_refl _) hg (fun _ ad had e => by have := hl ad had; injection e with e; omega)).mono hg.size), (hb.setCell hr _).setCell hr _⟩

set_option maxRecDepth 100000 in
set_option maxHeartbeats 8000000 in
theorem puts_any (A : Option Addr) (n c : Nat) (l : List Ob) (tu : Int) (w : World) (hs : OkHp w A n c l) (hc : c ≤ 9223372036854775807) (ht0 : 0 ≤ tu) (ht1 : tu ≤ 255) :
    Calls Try.prog 5 #[.slice A n c, .int .u8 tu] w fun e w' => e = .returned (.bool true) ∧ Below w.heap.size w w' := by
  have hfew := hs.few
  have hnc := hs.cap
  have HH := Lib.hid hs.hp
  go_enter Try.func5, Try.ntmps5
  go_wp2_with fail
  refine (sane_any w).mono ?_
  rintro e w1 ⟨rfl, hb1⟩
  have hz1 := hb1.size
  have hc20 : 20 < n → (20 : Int) ≤ (c : Int) := fun h => by omega
  go_upto_if 19 with fail
  go_cut [0] (fun s0 wx => ∃ m : Nat, m ≤ 20 ∧ s0 = .slice A m c ∧ wx = w1 ∧ Hid (Hp w w.heap.size A m (l.take m)))
  case first =>
    by_cases hn20 : 20 < n
    · have h1 := hc20 hn20
      have hne : ¬ c = 0 := by omega
      go_wp2
      go_meet
      exact ⟨20, by omega, rfl, rfl, Lib.hid (HH.out.take (by omega))⟩
    · go_wp2
      go_meet
      exact ⟨n, by omega, rfl, rfl, Lib.hid (HH.out.take (Nat.le_refl _))⟩
  case rest =>
    obtain ⟨m, hm, rfl, rfl, hp⟩ := hcut
    rename World => w1
    have hp1 := hp.out.up hb1
    have HP1 := Lib.hid hp1
    clear hp1
    go_wp2_with fail
    refine (big_any A m c (l.take m) w1 HP1.out.sl (by omega) (fun o ho => by have := (HP1.out.obs o ho).2; omega)).mono ?_
    rintro e w2 ⟨b, rfl, hb2⟩
    have hz2 := hb2.size
    have bw2 : Below w.heap.size w w2 := hb1.trans (hb2.mono hz1)
    cases b with
    | true =>
      go_wp2
      go_ret
      exact ⟨rfl, bw2⟩
    | false =>
      obtain ⟨W3, hW3⟩ : ∃ W3, W3 = (w2.alloc (.cells #[.slice none 0 0] 24)).alloc (.cells #[.slice none 0 0] 24) := ⟨_, rfl⟩
      have hb3 : Below w2.heap.size w2 W3 := by rw [hW3]; exact (by repeat (first | (with_reducible exact (Below.refl _ _)) | (with_reducible refine Below.drew ?_) | (with_reducible refine below_drewN ?_ _) | (with_reducible refine Below.setCell ?_ ?_ _; rotate_left; (first | omega | (simp <;> omega))) | (with_reducible refine Below.alloc ?_ ?_ _; rotate_left; (first | omega | (simp <;> omega)))))
      have hz3 : W3.heap.size = w2.heap.size + 2 := by rw [hW3]; simp
      have s0 : W3.cell? ⟨w2.heap.size, 0, none⟩ = some (.slice none 0 0) := by rw [hW3, cell_old _ _ _ _ (by simp), cell_new _ _ _ _ _ rfl]; rfl
      have s1 : W3.frozen? ⟨w2.heap.size, 0, none⟩ = false := by rw [hW3, frozen_old _ _ _ _ (by simp), frozen_new _ _ _ _ _ rfl]
      have s2 : W3.cell? ⟨w2.heap.size + 1, 0, none⟩ = some (.slice none 0 0) := by rw [hW3, cell_new _ _ _ _ _ (by simp)]; rfl
      have s3 : W3.frozen? ⟨w2.heap.size + 1, 0, none⟩ = false := by rw [hW3, frozen_new _ _ _ _ _ (by simp)]
      have bw3 : Below w.heap.size w W3 := bw2.trans (hb3.mono bw2.size)
      have HL := Lib.hid hp.out.sl.len
      obtain ⟨F, hF⟩ : ∃ F : Nat → List Val, ∀ (k : Nat) (x : Ob), (l.take m)[k]? = some x → F k = x.s := ⟨fun k => match (l.take m)[k]? with | some x => x.s | none => [], fun k x hx => by simp only [hx]⟩
      have HF := Lib.hid hF
      have A0 := Lib.hid s0
      have A1 := Lib.hid s1
      have A2 := Lib.hid s2
      have A3 := Lib.hid s3
      clear hF s0 s1 s2 s3
      go_wp2_with fail
      rw [← hW3]
      have HW3 := Lib.hid hW3
      clear hW3
      go_loopw [27] (fun i wr => ∃ (k : Nat) (Aa : Option Addr) (ca : Nat) (la : List Ob), k ≤ m ∧ i = .int .i64 k ∧ Hid (la.map Ob.po = (List.range k).map (nth F)) ∧ Hid (wr.cell? ⟨w2.heap.size, 0, none⟩ = some (.slice Aa k ca)) ∧ Hid (wr.frozen? ⟨w2.heap.size, 0, none⟩ = false) ∧ Hid (wr.cell? ⟨w2.heap.size + 1, 0, none⟩ = some (.slice none 0 0)) ∧ Hid (wr.frozen? ⟨w2.heap.size + 1, 0, none⟩ = false) ∧ Hid (Hp wr wr.heap.size Aa k la) ∧ Hid (Fr (w2.heap.size + 2) Aa la) ∧ Below w2.heap.size w2 wr ∧ w2.heap.size + 2 ≤ wr.heap.size) (fun i _ => m - (intOf i).toNat)
      case atStart => exact ⟨0, none, 0, [], Nat.zero_le _, rfl, Lib.hid rfl, A0, A1, A2, A3, Lib.hid Hp.nil, Lib.hid Fr.nil, hb3, by omega⟩
      case round =>
        obtain ⟨k, Aa, ca, la, hk, rfl, hla, q0, q1, q2, q3, hH, hFr, hbr, hzr⟩ := hrel
        have bwr : Below w.heap.size w wr := bw2.trans (hbr.mono bw2.size)
        by_cases hlt : k < m
        · obtain ⟨ab, ao, rfl, hlo, hat⟩ := hp.out.sl.at_ (by omega)
          obtain ⟨x, hx⟩ : ∃ x, (l.take m)[k]? = some x := ⟨_, List.getElem?_eq_getElem (by rw [HL.out]; exact hlt)⟩
          have c0 : wr.cell? ⟨ab, ao + k * 2, none⟩ = some (.int .i64 x.id) := (belc bwr hlo).trans (hat k x hx 0 _ rfl)
          have c1 : wr.cell? ⟨ab, ao + k * 2 + 1, none⟩ = some (.slice x.A x.n x.c) := (belc bwr hlo).trans (hat k x hx 1 _ rfl)
          have u0 := q0.out
          have u1 := q1.out
          have p0 : w2.heap.size < wr.heap.size := by omega
          have HX := Lib.hid hx
          clear hat hx
          obtain ⟨X, hX⟩ : ∃ X, X = wr.alloc (.cells #[.int .i64 (1 + (k : Int)), .slice x.A x.n x.c] 27) := ⟨_, rfl⟩
          have hbX : Below wr.heap.size wr X := by rw [hX]; exact (by repeat (first | (with_reducible exact (Below.refl _ _)) | (with_reducible refine Below.drew ?_) | (with_reducible refine below_drewN ?_ _) | (with_reducible refine Below.setCell ?_ ?_ _; rotate_left; (first | omega | (simp <;> omega))) | (with_reducible refine Below.alloc ?_ ?_ _; rotate_left; (first | omega | (simp <;> omega)))))
          have hzX : X.heap.size = wr.heap.size + 1 := by rw [hX]; simp
          have HXO := Lib.hid (((hp.out.obs x (List.mem_of_getElem? HX.out)).1.up bwr).up hbX)
          have hxn := (hp.out.obs x (List.mem_of_getElem? HX.out)).2
          go_wp2_with fail
          rw [← hX, show (1 + (k : Int)) = (k : Int) + 1 from Int.add_comm _ _]
          have HX2 := Lib.hid hX
          clear hX
          refine (put_any Aa k ca la ⟨(k : Int) + 1, x.A, x.n, x.c, x.s⟩ X (hH.out.up hbX) HXO.out (by omega) hxn).mono ?_
          rintro e Y ⟨A5, n5, c5, l5, rfl, hp5, hn5, hH5, hF5, hb5⟩
          have hput : putO (⟨(k : Int) + 1, x.A, x.n, x.c, x.s⟩ : Ob).po (la.map Ob.po) = (List.range (k + 1)).map (nth F) := by
            have h1 : (⟨(k : Int) + 1, x.A, x.n, x.c, x.s⟩ : Ob).po = nth F k := by unfold Ob.po nth; rw [HF.out k x HX.out]
            rw [h1, hla.out, put_ins F k (asc_range k), ins_range]
          rw [hput] at hp5 hn5
          have hn5x : n5 = k + 1 := by rw [hn5, List.length_map, List.length_range]
          clear hn5 hput
          subst hn5x
          have hz5 := hb5.size
          have r0 : Y.cell? ⟨w2.heap.size, 0, none⟩ = some (.slice Aa k ca) := (belc hb5 (by omega)).trans ((belc hbX p0).trans q0.out)
          have r1 : Y.frozen? ⟨w2.heap.size, 0, none⟩ = false := (belf hb5 (by omega)).trans ((belf hbX p0).trans q1.out)
          have r2 : Y.cell? ⟨w2.heap.size + 1, 0, none⟩ = some (.slice none 0 0) := (belc hb5 (by omega)).trans ((belc hbX (by omega)).trans q2.out)
          have r3 : Y.frozen? ⟨w2.heap.size + 1, 0, none⟩ = false := (belf hb5 (by omega)).trans ((belf hbX (by omega)).trans q3.out)
          have hg := grown1 Y ⟨w2.heap.size, 0, none⟩ (.slice A5 (k + 1) c5)
          have hH6 := hH5.out.apart hF5.out hg (by show w2.heap.size < X.heap.size; omega)
          have hF6 : Fr (w2.heap.size + 2) A5 l5 := ⟨fun ad had => by have := hF5.out.1 ad had; omega, fun o ho h0 ad had => by have := hF5.out.2 o ho h0 ad had; omega⟩
          have R2 := Lib.hid ((set_other Y ⟨w2.heap.size, 0, none⟩ ⟨w2.heap.size + 1, 0, none⟩ (.slice A5 (k + 1) c5) (by simp)).trans r2)
          have R3 := Lib.hid (((gcell hg).2 (w2.heap.size + 1) 0 (by omega) (by simp)).trans r3)
          have R0 := Lib.hid (World.cell?_setCell_same Y ⟨w2.heap.size, 0, none⟩ (.slice A5 (k + 1) c5) r0)
          have R1 := Lib.hid (show (Y.setCell ⟨w2.heap.size, 0, none⟩ (.slice A5 (k + 1) c5)).frozen? ⟨w2.heap.size, 0, none⟩ = false from by first | (rw [World.frozen?_setCell]; exact r1) | (simp; exact r1))
          have HP5 := Lib.hid hp5
          have HH6 := Lib.hid hH6
          have HF6 := Lib.hid hF6
          have bb : Below w2.heap.size w2 Y := hbr.trans ((hbX.trans (hb5.mono hbX.size)).mono hbr.size)
          clear hp5 hH6 hF6 hg r2 r3
          go_wp2
          go_roundw
          case rel => exact ⟨k + 1, A5, c5, l5, by omega, by go_num, HP5, R0, R1, R2, R3, HH6, HF6, bb.setCell (Nat.le_refl _) _, by simp; omega⟩
          case measure => simp [intOf]; omega
        · obtain rfl : k = m := by omega
          have HA1 := Lib.hid q0.out
          have HQ1 := Lib.hid q1.out
          go_wp2_with fail
          go_loopw [41] (fun i ws => ∃ (i' nb : Nat) (Ab : Option Addr) (cb : Nat) (lb : List Ob) (ks : List Nat), i' ≤ k ∧ nb ≤ i' ∧ i = .int .i64 i' ∧ Hid (AscN ks) ∧ Hid (∀ x ∈ ks, x < k) ∧ Hid (∀ q, q < i' → (q + tu.toNat) % k ∈ ks) ∧ Hid (lb.map Ob.po = ks.map (nth F)) ∧ Hid (ws.cell? ⟨w2.heap.size + 1, 0, none⟩ = some (.slice Ab nb cb)) ∧ Hid (ws.frozen? ⟨w2.heap.size + 1, 0, none⟩ = false) ∧ Hid (ws.cell? ⟨w2.heap.size, 0, none⟩ = some (.slice Aa k ca)) ∧ Hid (Hp ws ws.heap.size Ab nb lb) ∧ Hid (Fr (w2.heap.size + 2) Ab lb) ∧ Hid (Hp ws ws.heap.size Aa k la) ∧ Below w2.heap.size w2 ws ∧ w2.heap.size + 2 ≤ ws.heap.size) (fun i _ => k - (intOf i).toNat)
          case atStart => exact ⟨0, 0, none, 0, [], [], by omega, by omega, rfl, Lib.hid List.Pairwise.nil, Lib.hid (fun x h => by simp at h), Lib.hid (fun q h => absurd h (by omega)), Lib.hid rfl, q2, q3, q0, Lib.hid Hp.nil, Lib.hid Fr.nil, hH, hbr, hzr⟩
          case round =>
            obtain ⟨i, nb, Ab, cb, lb, ks, hi, hnb, rfl, hasc, hks, hall, hlb, t0, t1, t2, hHb, hFb, hHa, hbs, hzs⟩ := hrel
            rename World => ws
            have bws : Below w.heap.size w ws := bw2.trans (hbs.mono bw2.size)
            by_cases hlt2 : i < k
            · obtain ⟨ab, ao, rfl, hlo, hat⟩ := hp.out.sl.at_ (by omega)
              obtain ⟨j, hj⟩ : ∃ j : Nat, ((i : Int) + tu) % (k : Int) = j := ⟨(((i : Int) + tu) % (k : Int)).toNat, by have := Int.emod_nonneg ((i : Int) + tu) (show (k : Int) ≠ 0 by omega); omega⟩
              have hjk : j < k := by have := Int.emod_lt_of_pos ((i : Int) + tu) (show (0 : Int) < k by omega); omega
              have hjm : ((i : Int) + tu).tmod (k : Int) = j := by rw [Int.tmod_eq_emod_of_nonneg (by omega)]; exact hj
              have HJ := Lib.hid (show (i + tu.toNat) % k = j from by have h1 : (((i + tu.toNat) % k : Nat) : Int) = j := by rw [← hj]; push_cast; rw [Int.toNat_of_nonneg ht0]
                                                                      omega)
              have hkI : ¬ (k : Int) = 0 := by omega
              have hjI : (j : Int) < (k : Int) := by omega
              obtain ⟨x, hx⟩ : ∃ x, (l.take k)[j]? = some x := ⟨_, List.getElem?_eq_getElem (by rw [HL.out]; exact hjk)⟩
              have c0 : ws.cell? ⟨ab, ao + j * 2, none⟩ = some (.int .i64 x.id) := (belc bws hlo).trans (hat j x hx 0 _ rfl)
              have c1 : ws.cell? ⟨ab, ao + j * 2 + 1, none⟩ = some (.slice x.A x.n x.c) := (belc bws hlo).trans (hat j x hx 1 _ rfl)
              have u0 := t0.out
              have u1 := t1.out
              have p0 : w2.heap.size + 1 < ws.heap.size := by omega
              have HX := Lib.hid hx
              clear hat hx hj
              obtain ⟨X, hX⟩ : ∃ X, X = ws.alloc (.cells #[.int .i64 (1 + (j : Int)), .slice x.A x.n x.c] 27) := ⟨_, rfl⟩
              have hbX : Below ws.heap.size ws X := by rw [hX]; exact (by repeat (first | (with_reducible exact (Below.refl _ _)) | (with_reducible refine Below.drew ?_) | (with_reducible refine below_drewN ?_ _) | (with_reducible refine Below.setCell ?_ ?_ _; rotate_left; (first | omega | (simp <;> omega))) | (with_reducible refine Below.alloc ?_ ?_ _; rotate_left; (first | omega | (simp <;> omega)))))
              have hzX : X.heap.size = ws.heap.size + 1 := by rw [hX]; simp
              have HXO := Lib.hid (((hp.out.obs x (List.mem_of_getElem? HX.out)).1.up bws).up hbX)
              have hxn := (hp.out.obs x (List.mem_of_getElem? HX.out)).2
              go_wp2_with fail
              rw [← hX, show (1 + (j : Int)) = (j : Int) + 1 from Int.add_comm _ _]
              have HX2 := Lib.hid hX
              clear hX
              refine (put_any Ab nb cb lb ⟨(j : Int) + 1, x.A, x.n, x.c, x.s⟩ X (hHb.out.up hbX) HXO.out (by omega) hxn).mono ?_
              rintro e Y ⟨A5, n5, c5, l5, rfl, hp5, hn5, hH5, hF5, hb5⟩
              have hput : putO (⟨(j : Int) + 1, x.A, x.n, x.c, x.s⟩ : Ob).po (lb.map Ob.po) = (ins j ks).map (nth F) := by
                have h1 : (⟨(j : Int) + 1, x.A, x.n, x.c, x.s⟩ : Ob).po = nth F j := by unfold Ob.po nth; rw [HF.out j x HX.out]
                rw [h1, hlb.out, put_ins F j hasc.out]
              rw [hput] at hp5 hn5
              have hlbl : ks.length = nb := by have h1 := congrArg List.length hlb.out; rw [List.length_map, List.length_map, hHb.out.sl.len] at h1; exact h1.symm
              have hn5x : n5 ≤ i + 1 := by rw [hn5, List.length_map]; have := ins_len j ks; omega
              have hn5l := hn5
              have HN5 := Lib.hid hn5l
              clear hn5 hn5l hput hlbl
              have hz5 := hb5.size
              have r0 : Y.cell? ⟨w2.heap.size + 1, 0, none⟩ = some (.slice Ab nb cb) := (belc hb5 (by omega)).trans ((belc hbX p0).trans t0.out)
              have r1 : Y.frozen? ⟨w2.heap.size + 1, 0, none⟩ = false := (belf hb5 (by omega)).trans ((belf hbX p0).trans t1.out)
              have r2 : Y.cell? ⟨w2.heap.size, 0, none⟩ = some (.slice Aa k ca) := (belc hb5 (by omega)).trans ((belc hbX (by omega)).trans t2.out)
              have hg := grown1 Y ⟨w2.heap.size + 1, 0, none⟩ (.slice A5 n5 c5)
              have hH6 := hH5.out.apart hF5.out hg (by show w2.heap.size + 1 < X.heap.size; omega)
              have hF6 : Fr (w2.heap.size + 2) A5 l5 := ⟨fun ad had => by have := hF5.out.1 ad had; omega, fun o ho h0 ad had => by have := hF5.out.2 o ho h0 ad had; omega⟩
              have hHa6 := ((hHa.out.up hbX).up hb5).apart hFr.out hg (by show w2.heap.size + 1 < w2.heap.size + 2; omega)
              have R2 := Lib.hid ((set_other Y ⟨w2.heap.size + 1, 0, none⟩ ⟨w2.heap.size, 0, none⟩ (.slice A5 n5 c5) (by simp)).trans r2)
              have R0 := Lib.hid (World.cell?_setCell_same Y ⟨w2.heap.size + 1, 0, none⟩ (.slice A5 n5 c5) r0)
              have R1 := Lib.hid (show (Y.setCell ⟨w2.heap.size + 1, 0, none⟩ (.slice A5 n5 c5)).frozen? ⟨w2.heap.size + 1, 0, none⟩ = false from by first | (rw [World.frozen?_setCell]; exact r1) | (simp; exact r1))
              have HP5 := Lib.hid hp5
              have HH6 := Lib.hid hH6
              have HF6 := Lib.hid hF6
              have HA6 := Lib.hid hHa6
              have HASC := Lib.hid (ins_asc (k := j) hasc.out)
              have HKS := Lib.hid (show ∀ x ∈ ins j ks, x < k from fun x hx => by rcases (ins_mem j ks x).1 hx with rfl | h; exact hjk; exact hks.out x h)
              have HALL := Lib.hid (show ∀ q, q < i + 1 → (q + tu.toNat) % k ∈ ins j ks from fun q hq => by
                refine (ins_mem j ks _).2 ?_
                by_cases hqi : q = i
                · subst hqi; exact .inl HJ.out
                · exact .inr (hall.out q (by omega)))
              have bb : Below w2.heap.size w2 Y := hbs.trans ((hbX.trans (hb5.mono hbX.size)).mono hbs.size)
              clear hp5 hH6 hF6 hg r2 hHa6
              go_wp2
              go_roundw
              case rel => exact ⟨i + 1, n5, A5, c5, l5, ins j ks, by omega, hn5x, by go_num, HASC, HKS, HALL, HP5, R0, R1, R2, HH6, HF6, HA6, bb.setCell (by show w2.heap.size ≤ w2.heap.size + 1; omega) _, by simp; omega⟩
              case measure => simp [intOf]; omega
            · obtain rfl : i = k := by omega
              have hksr : ks = List.range i := by
                refine asc_ext hasc.out (asc_range i) fun y => ⟨fun hy => List.mem_range.2 (hks.out y hy), fun hy => ?_⟩
                have hyi := List.mem_range.1 hy
                obtain ⟨q, hq, he⟩ := turned_all (n := i) (t := tu.toNat) (by omega) hyi
                rw [← he]
                exact hall.out q hq
              have hlb2 := hlb.out
              rw [hksr] at hlb2
              have hnbk : nb = i := by have h1 := congrArg List.length hlb2; rw [List.length_map, List.length_map, List.length_range, hHb.out.sl.len] at h1; exact h1
              have HLB := Lib.hid hlb2
              clear hksr hlb2
              subst hnbk
              have HSM := Lib.hid (show decide (la.map Ob.po = lb.map Ob.po) = true from decide_eq_true (by rw [hla.out, HLB.out]))
              have HVA := Lib.hid (show validB (la.map Ob.po) = true from by rw [hla.out]; exact validB_true (valid_nth F (asc_range _)))
              have u0 := t0.out
              have u2 := t2.out
              go_wp2_with fail
              refine (same_any Aa nb ca la Ab nb cb lb ws hHa.out hHb.out (by omega) (by omega)).mono ?_
              rintro e x1 ⟨rfl, hx1⟩
              rw [HSM.out]
              have hzx1 := hx1.size
              have v2 : x1.cell? ⟨w2.heap.size, 0, none⟩ = some (.slice Aa nb ca) := (belc hx1 (by omega)).trans t2.out
              have HH1 := Lib.hid (hHa.out.up hx1)
              clear u0 u2
              go_wp2_with fail
              refine (valid_any Aa nb ca la x1 HH1.out.sl (by omega)).mono ?_
              rintro e x2 ⟨rfl, hx2⟩
              rw [HVA.out]
              have hzx2 := hx2.size
              have v3 : x2.cell? ⟨w2.heap.size, 0, none⟩ = some (.slice Aa nb ca) := (belc hx2 (by omega)).trans v2
              have HH2 := Lib.hid (HH1.out.up hx2)
              have bx2 : Below w2.heap.size w2 x2 := hbs.trans ((hx1.trans (hx2.mono hzx1)).mono hbs.size)
              have bwx2 : Below w.heap.size w x2 := bw2.trans (bx2.mono bw2.size)
              clear v2
              by_cases hn0 : nb = 0
              · subst hn0
                go_wp2
                go_ret
                exact ⟨rfl, bwx2⟩
              · have hnI : ¬ (nb : Int) = 0 := by omega
                have hnI2 : ((nb : Int) == 0) = false := by simp; exact hn0
                obtain ⟨j, hj⟩ : ∃ j : Nat, tu % (nb : Int) = j := ⟨(tu % (nb : Int)).toNat, by have := Int.emod_nonneg tu (show (nb : Int) ≠ 0 by omega); omega⟩
                have hjk : j < nb := by have := Int.emod_lt_of_pos tu (show (0 : Int) < nb by omega); omega
                have hjm : tu.tmod (nb : Int) = j := by rw [Int.tmod_eq_emod_of_nonneg ht0]; exact hj
                clear hj
                go_wp2_with fail
                obtain ⟨V, hV⟩ : ∃ V, V = (x2.alloc (.cells #[.bool false, .int .i64 77] 29)).alloc (.cells #[.int .i64 (1 + (j : Int)), .slice (some ⟨x2.heap.size, 0, none⟩) 1 1] 27) := ⟨_, rfl⟩
                have hbV : Below x2.heap.size x2 V := by rw [hV]; exact (by repeat (first | (with_reducible exact (Below.refl _ _)) | (with_reducible refine Below.drew ?_) | (with_reducible refine below_drewN ?_ _) | (with_reducible refine Below.setCell ?_ ?_ _; rotate_left; (first | omega | (simp <;> omega))) | (with_reducible refine Below.alloc ?_ ?_ _; rotate_left; (first | omega | (simp <;> omega)))))
                have hzV : V.heap.size = x2.heap.size + 2 := by rw [hV]; simp
                have f0 : V.cell? ⟨x2.heap.size, 0, none⟩ = some (.bool false) := by rw [hV, cell_old _ _ _ _ (by simp), cell_new _ _ _ _ _ rfl]; rfl
                have f1 : V.cell? ⟨x2.heap.size, 1, none⟩ = some (.int .i64 77) := by rw [hV, cell_old _ _ _ _ (by simp), cell_new _ _ _ _ _ rfl]; rfl
                have o0 : V.cell? ⟨x2.heap.size + 1, 0, none⟩ = some (.int .i64 (1 + (j : Int))) := by rw [hV, cell_new _ _ _ _ _ (by simp)]; rfl
                have o1 : V.cell? ⟨x2.heap.size + 1, 1, none⟩ = some (.slice (some ⟨x2.heap.size, 0, none⟩) 1 1) := by rw [hV, cell_new _ _ _ _ _ (by simp)]; rfl
                have hsf : Sl V V.heap.size 2 Val.cells (some ⟨x2.heap.size, 0, none⟩) 1 [⟨false, 77⟩] := by
                  refine ⟨rfl, fun _ => ⟨x2.heap.size, 0, rfl, by omega, fun i x hx q u hu => ?_⟩⟩
                  match i, hx with
                  | 0, hx =>
                    simp at hx; subst hx
                    match q, hu with
                    | 0, hu => injection hu with hu; subst hu; exact f0
                    | 1, hu => injection hu with hu; subst hu; exact f1
                    | q + 2, hu => simp [Val.cells] at hu
                  | i + 1, hx => simp at hx
                have v4 : V.cell? ⟨w2.heap.size, 0, none⟩ = some (.slice Aa nb ca) := (belc hbV (by omega)).trans v3
                have HHV := Lib.hid (HH2.out.up hbV)
                have HSF := Lib.hid hsf
                have hget : ((List.range nb).map (nth F))[j]? = some (nth F j) := by simp [hjk]
                have hput : putO (⟨1 + (j : Int), some ⟨x2.heap.size, 0, none⟩, 1, 1, [⟨false, 77⟩]⟩ : Ob).po (la.map Ob.po) = ((List.range nb).map (nth F)).set j ⟨1 + (j : Int), [⟨false, 77⟩]⟩ := by
                  rw [hla.out]; exact put_at (valid_nth F (asc_range _)) hget (by show (1 + (j : Int)) = j + 1; omega)
                have hgo := get_at (o := ⟨1 + (j : Int), [⟨false, 77⟩]⟩) (valid_nth F (asc_range nb)) hget (by show (1 + (j : Int)) = j + 1; omega)
                have HPUT := Lib.hid hput
                have HGO := Lib.hid hgo.1
                have HGB := Lib.hid hgo.2
                clear f0 f1 hsf hput hgo hget v3
                rw [← hV]
                have HV := Lib.hid hV
                clear hV
                have l0 : w2.heap.size < V.heap.size := by omega
                have l1 : x2.heap.size + 1 < V.heap.size := by omega
                go_cut [13, 14] (fun s13 s14 wx => Gt1 V (1 + (j : Int)) s13 s14 wx)
                case first =>
                  have Z0 : ∀ wz : World, (wz.alloc (.cells #[.int .i64 0, .slice none 0 0] 27)).drew.heap.size = wz.heap.size + 1 := fun wz => by show (wz.alloc _).heap.size = _; simp
                  have bZ : ∀ wz : World, Below wz.heap.size wz (wz.alloc (.cells #[.int .i64 0, .slice none 0 0] 27)).drew := fun wz => Below.drew ((Below.refl _ _).alloc (Nat.le_refl _) _)
                  have bZ' : ∀ wz : World, Below wz.heap.size wz (wz.alloc (.cells #[.int .i64 0, .slice none 0 0] 27)) := fun wz => (Below.refl _ _).alloc (Nat.le_refl _) _
                  have HHD := Lib.hid (HHV.out.up (Below.drew (Below.refl _ _)) : Hp V.drew V.drew.heap.size Aa nb la)
                  have HSD := Lib.hid (HSF.out.up (Below.drew (Below.refl _ _)) : Sl V.drew V.drew.heap.size 2 Val.cells (some ⟨x2.heap.size, 0, none⟩) 1 [⟨false, 77⟩])
                  have HHE := Lib.hid (HHV.out.up (bZ V))
                  have HSE := Lib.hid (HSF.out.up (bZ V))
                  clear hzV
                  go_region_held3 (fun w' => w'.cell? ⟨w2.heap.size, 0, none⟩ = some (.slice Aa nb ca) ∧ w'.cell? ⟨x2.heap.size + 1, 0, none⟩ = some (.int .i64 (1 + (j : Int))) ∧ w'.cell? ⟨x2.heap.size + 1, 1, none⟩ = some (.slice (some ⟨x2.heap.size, 0, none⟩) 1 1))
                    (first
                      | exact ⟨v4, o0, o1⟩
                      | exact ⟨p2, p0, p1⟩
                      | exact ⟨r2, r0, r1⟩
                      | exact ⟨(by show (V.alloc _).cell? _ = _; rw [cell_old _ _ _ _ l0]; exact v4), (by show (V.alloc _).cell? _ = _; rw [cell_old _ _ _ _ l1]; exact o0), (by show (V.alloc _).cell? _ = _; rw [cell_old _ _ _ _ l1]; exact o1)⟩
                      | exact ⟨(by rw [cell_old _ _ _ _ (by omega)]; exact p2), (by rw [cell_old _ _ _ _ (by omega)]; exact p0), (by rw [cell_old _ _ _ _ (by omega)]; exact p1)⟩
                      | exact ⟨(by rw [cell_old _ _ _ _ (by omega)]; exact r2), (by rw [cell_old _ _ _ _ (by omega)]; exact r0), (by rw [cell_old _ _ _ _ (by omega)]; exact r1)⟩
                      | exact ⟨(by rw [set_other _ _ _ _ (by intro e; injection e with e1 e2; omega), set_other _ _ _ _ (by intro e; injection e with e1 e2; omega)]; exact r2), (by rw [set_other _ _ _ _ (by intro e; injection e with e1 e2; omega), set_other _ _ _ _ (by intro e; injection e with e1 e2; omega)]; exact r0), (by rw [set_other _ _ _ _ (by intro e; injection e with e1 e2; omega), set_other _ _ _ _ (by intro e; injection e with e1 e2; omega)]; exact r1)⟩)
                    (first
                      | (go_at_call 15; refine (put_any Aa nb ca la ⟨1 + (j : Int), some ⟨x2.heap.size, 0, none⟩, 1, 1, [⟨false, 77⟩]⟩ V.drew HHD.out HSD.out (by omega) (by show 1 ≤ 8796093021952; omega)).mono ?_; rintro e Y ⟨A9, n9, c9, l9, rfl, hp9, hn9, hH9, -, hbY⟩; have hbV2 : Below V.heap.size V Y := (Below.drew (Below.refl _ _)).trans hbY; rw [HPUT.out] at hp9 hn9; have hn9x : n9 ≤ 20 := (by rw [hn9, List.length_set, List.length_map, List.length_range]; omega); clear hn9; have p0 := (belc hbV2 l1).trans o0; have p1 := (belc hbV2 l1).trans o1; have p2 := (belc hbV2 l0).trans v4; have hzY := hbV2.size)
                      | (go_at_call 15; refine (put_any Aa nb ca la ⟨1 + (j : Int), some ⟨x2.heap.size, 0, none⟩, 1, 1, [⟨false, 77⟩]⟩ (V.alloc (.cells #[.int .i64 0, .slice none 0 0] 27)).drew HHE.out HSE.out (by omega) (by show 1 ≤ 8796093021952; omega)).mono ?_; rintro e Y ⟨A9, n9, c9, l9, rfl, hp9, hn9, hH9, -, hbY⟩; have hbV2 : Below V.heap.size V Y := (bZ V).trans (hbY.mono (by rw [Z0]; omega)); rw [HPUT.out] at hp9 hn9; have hn9x : n9 ≤ 20 := (by rw [hn9, List.length_set, List.length_map, List.length_range]; omega); clear hn9; have p0 := (belc hbV2 l1).trans o0; have p1 := (belc hbV2 l1).trans o1; have p2 := (belc hbV2 l0).trans v4; have hzY := hbV2.size; have hzY1 : V.heap.size + 1 ≤ Y.heap.size := (by have := hbY.size; rw [Z0] at this; exact this); have z0 : Y.cell? ⟨V.heap.size, 0, none⟩ = some (.int .i64 0) := ((belc hbY (by rw [Z0]; omega)).trans (by show (V.alloc _).cell? _ = _; rw [cell_new _ _ _ _ _ rfl]; rfl)); have z1 : Y.cell? ⟨V.heap.size, 1, none⟩ = some (.slice none 0 0) := ((belc hbY (by rw [Z0]; omega)).trans (by show (V.alloc _).cell? _ = _; rw [cell_new _ _ _ _ _ rfl]; rfl)); have z2 : Y.frozen? ⟨V.heap.size, 0, none⟩ = false := ((belf hbY (by rw [Z0]; omega)).trans (by show (V.alloc _).frozen? _ = _; rw [frozen_new _ _ _ _ _ rfl])); have z3 : Y.frozen? ⟨V.heap.size, 1, none⟩ = false := ((belf hbY (by rw [Z0]; omega)).trans (by show (V.alloc _).frozen? _ = _; rw [frozen_new _ _ _ _ _ rfl])))
                      | (go_at_call 9; refine (get_any A9 n9 c9 l9 (1 + (j : Int)) Y hH9.out (by omega)).mono ?_; rintro e Q ⟨Aq, nq, cq, rfl, hnq, hq, hql, hbQ⟩; rw [hp9, HGO.out, HGB.out]; rw [hp9, HGO.out] at hq; have hzQ := hbQ.size; have r0 := (belc hbQ (by omega)).trans p0; have r1 := (belc hbQ (by omega)).trans p1; have r2 := (belc hbQ (by omega)).trans p2; have hVY := World.block_lt_of_cell? Y _ z0; have y0 := (belc hbQ hVY).trans z0; have y1 := (belc hbQ hVY).trans z1; have y2 := (belf hbQ hVY).trans z2; have y3 := (belf hbQ hVY).trans z3; have hVQ : V.heap.size < Y.heap.size := hVY)
                      | (go_at_call 9; refine (get_any A9 n9 c9 l9 (1 + (j : Int)) Y hH9.out (by omega)).mono ?_; rintro e Q ⟨Aq, nq, cq, rfl, hnq, hq, hql, hbQ⟩; rw [hp9, HGO.out, HGB.out]; rw [hp9, HGO.out] at hq; have hzQ := hbQ.size; have r0 := (belc hbQ (by omega)).trans p0; have r1 := (belc hbQ (by omega)).trans p1; have r2 := (belc hbQ (by omega)).trans p2)
                      | (go_at_call 9; refine (get_any A9 n9 c9 l9 (1 + (j : Int)) (Y.alloc (.cells #[.int .i64 0, .slice none 0 0] 27)) (hH9.out.up (bZ' Y)) (by omega)).mono ?_; rintro e Q ⟨Aq, nq, cq, rfl, hnq, hq, hql, hbQ⟩; rw [hp9, HGO.out, HGB.out]; rw [hp9, HGO.out] at hq; have hYz : (Y.alloc (.cells #[.int .i64 0, .slice none 0 0] 27)).heap.size = Y.heap.size + 1 := (by simp); have hzQ := hbQ.size; have r0 := (belc hbQ (by omega)).trans ((belc (bZ' Y) (by omega)).trans p0); have r1 := (belc hbQ (by omega)).trans ((belc (bZ' Y) (by omega)).trans p1); have r2 := (belc hbQ (by omega)).trans ((belc (bZ' Y) (by omega)).trans p2); have y0 : Q.cell? ⟨Y.heap.size, 0, none⟩ = some (.int .i64 0) := (belc hbQ (by omega)).trans (by rw [cell_new _ _ _ _ _ rfl]; rfl); have y1 : Q.cell? ⟨Y.heap.size, 1, none⟩ = some (.slice none 0 0) := (belc hbQ (by omega)).trans (by rw [cell_new _ _ _ _ _ rfl]; rfl); have y2 : Q.frozen? ⟨Y.heap.size, 0, none⟩ = false := (belf hbQ (by omega)).trans (by rw [frozen_new _ _ _ _ _ rfl]); have y3 : Q.frozen? ⟨Y.heap.size, 1, none⟩ = false := (belf hbQ (by omega)).trans (by rw [frozen_new _ _ _ _ _ rfl])))
                  all_goals
                    go_wp2_with fail
                    go_meet
                    first
                      | exact Gt1.after (hbV2.trans (hbQ.mono hbV2.size)) hnq hq
                      | exact Gt1.before (Nat.le_refl _) (by have := hbQ.size; omega) (hbV2.trans (hbQ.mono hbV2.size)) y0 y1 hnq hq (fun ad had => by have := hql.out ad had; omega)
                      | exact Gt1.before hbV2.size (by omega) (hbV2.trans (((bZ' Y).trans (hbQ.mono (by omega))).mono hbV2.size)) y0 y1 hnq hq (fun ad had => by have := hql.out ad had; omega)
                case rest =>
                  obtain ⟨g, Aq, nq, cq, rfl, rfl, hg0, hg1, g0, g1, hnq, hq, hbq⟩ := hcut
                  rename World => wq
                  have m0 : wq.cell? ⟨x2.heap.size + 1, 0, none⟩ = some (.int .i64 (1 + (j : Int))) := (belc hbq l1).trans o0
                  have m1 : wq.cell? ⟨x2.heap.size + 1, 1, none⟩ = some (.slice (some ⟨x2.heap.size, 0, none⟩) 1 1) := (belc hbq l1).trans o1
                  have m2 : wq.cell? ⟨w2.heap.size, 0, none⟩ = some (.slice Aa nb ca) := (belc hbq l0).trans v4
                  have HSQ := Lib.hid (HSF.out.up hbq)
                  have HHQ := Lib.hid (HHV.out.up hbq)
                  have bwq : Below w.heap.size w wq := bwx2.trans ((hbV.trans (hbq.mono (by omega))).mono bwx2.size)
                  have hzq := hbq.size
                  go_wp2_with fail
                  refine (sameobj_any ⟨1 + (j : Int), Aq, nq, cq, [⟨false, 77⟩]⟩ ⟨1 + (j : Int), some ⟨x2.heap.size, 0, none⟩, 1, 1, [⟨false, 77⟩]⟩ wq hq.out HSQ.out (by show nq ≤ _; omega) (by show 1 ≤ 9000000000000; omega)).mono ?_
                  rintro e y1 ⟨rfl, hy1⟩
                  rw [show decide ((⟨1 + (j : Int), Aq, nq, cq, [⟨false, 77⟩]⟩ : Ob).po = (⟨1 + (j : Int), some ⟨x2.heap.size, 0, none⟩, 1, 1, [⟨false, 77⟩]⟩ : Ob).po) = true from decide_eq_true rfl]
                  have k0 : y1.cell? ⟨x2.heap.size + 1, 0, none⟩ = some (.int .i64 (1 + (j : Int))) := (belc hy1 (by omega)).trans m0
                  have k1 : y1.cell? ⟨x2.heap.size + 1, 1, none⟩ = some (.slice (some ⟨x2.heap.size, 0, none⟩) 1 1) := (belc hy1 (by omega)).trans m1
                  have k2 : y1.cell? ⟨w2.heap.size, 0, none⟩ = some (.slice Aa nb ca) := (belc hy1 (by omega)).trans m2
                  clear m0 m1 m2
                  go_wp2_with fail
                  refine (put_any Aa nb ca la ⟨1 + (j : Int), some ⟨x2.heap.size, 0, none⟩, 1, 1, [⟨false, 77⟩]⟩ y1 (HHQ.out.up hy1) (HSQ.out.up hy1) (by omega) (by show 1 ≤ 8796093021952; omega)).mono ?_
                  rintro e y2 ⟨A9, n9, c9, l9, rfl, hp9, hn9, -, -, hy2⟩
                  rw [HPUT.out] at hn9
                  have hn9x : n9 = nb := by rw [hn9, List.length_set, List.length_map, List.length_range]
                  clear hn9 hp9
                  subst hn9x
                  have hif : ∀ w, (Instr.field 24 (.agg #[.slice A9 n9 c9]) 0).run Try.prog w = .ok (.slice A9 n9 c9) w := fun _ => by kernel_rfl
                  have bwy : Below w.heap.size w y2 := (bwq.trans (hy1.mono bwq.size)).trans (hy2.mono (by have := bwq.size; have := hy1.size; omega))
                  go_wp2
                  go_ret
                  exact ⟨by simp, bwy⟩
end Go.Proofs.Ytohflngcgmcllaa
