/- A thread alone sees its own stores: the walk. -/
import Derived.Test.YtnomghcieomjmaaSn
import Derived.Test.YtnomghcieomjmaaTH
import Derived.Test.YtnomghcieomjmaaDMod
import Derived.Test.YtnomghcieomjmaaFv
import Derived.Test.YtnomghcieomjmaaOW
import Derived.Test.YtnomghcieomjmaaAr
namespace Go.Proofs.Ytnomghcieomjmaa
open Go.RowKit

theorem own_facts {m : Int} {l : List POp} {mem : Nat → Int} {ts : List Pt} {v : Mv} (hl : MadeL l) (h : v ∈ movesP m [l] ts) (hs : Own m l mem ts) : Own m l (stepF m [l] mem ts v).1 (stepF m [l] mem ts v).2 ∧ left2 [l] (stepF m [l] mem ts v).2 < left2 [l] ts := by
  obtain ⟨mem', ts', hst⟩ := mem_stp mem h
  rw [stp_fun hst]
  exact ⟨own_stp hl hs hst, stp_left hst⟩
theorem own_ok {m : Int} {l : List POp} {mem : Nat → Int} {ts : List Pt} (hl : MadeL l) (hs : Own m l mem ts) (h0 : 0 ≤ m) (h3 : m ≤ 3) : validT [l] = true ∧ okB m [l] ts = true := by
  have hv : validT [l] = true := made_valid ⟨by simp, fun x hx => by simp at hx; subst hx; exact hl⟩
  obtain ⟨t, rfl, _⟩ := hs
  refine ⟨hv, ?_⟩
  unfold okB
  rw [hv, decide_eq_true h0, decide_eq_true h3, decide_eq_true (show [t].length = [l].length from rfl)]; rfl
theorem own_last {m : Int} {l : List POp} {mem : Nat → Int} {ts : List Tr} (h : Own m l mem (ts.map Tr.pt)) (he : endedP [l] (ts.map Tr.pt) = true) : ∃ u, ts = [u] ∧ u.regs = (seqL l).2 ∧ mem = (seqL l).1 := by
  obtain ⟨t, h1, h2, h3⟩ := own_end h he
  match ts, h1 with
  | [u], h1 =>
    injection h1 with h1 _
    subst h1
    exact ⟨u, rfl, h2, h3⟩
theorem Ths.first {w : World} {B : Nat} {A : Option Addr} {n : Nat} {x : Th} {l : List Th} (h : Ths w B A n (x :: l)) : Ths w B A 1 [x] := by
  refine ⟨⟨rfl, fun _ => ?_⟩, fun t ht => h.ths t (by simp at ht; subst ht; exact List.mem_cons_self ..)⟩
  obtain ⟨ab, ao, e, hlt, hat⟩ := h.sl.at_ (by have := h.sl.len; simp at this; omega)
  refine ⟨ab, ao, e, hlt, fun i y hi => hat i y ?_⟩
  match i, hi with
  | 0, hi => simpa using hi
theorem ThA.first {w : World} {d : Nat} {A : Option Addr} {n : Nat} {x : Th} {l : List Th} (h : ThA w d A n (x :: l)) : ThA w d A 1 [x] :=
  ⟨h.t.first, fun _ => h.a (by have := h.t.sl.len; simp at this; omega), fun t ht => h.b t (by simp at ht; subst ht; exact List.mem_cons_self ..)⟩
def Cells5 (Y : World) (b : Nat) (mem : Nat → Int) (SA : Option Addr) (qn qc : Nat) : Prop := (Y.cell? ⟨b, 0, none⟩ = some (.int .i64 (mem 0)) ∧ Y.cell? ⟨b, 1, none⟩ = some (.int .i64 (mem 1)) ∧ Y.cell? ⟨b, 2, none⟩ = some (.int .i64 (mem 2)) ∧ Y.cell? ⟨b, 3, none⟩ = some (.int .i64 (mem 3)) ∧ Y.cell? ⟨b, 4, none⟩ = some (.slice SA qn qc))
def Free5 (Y : World) (b : Nat) : Prop := (Y.frozen? ⟨b, 0, none⟩ = false ∧ Y.frozen? ⟨b, 1, none⟩ = false ∧ Y.frozen? ⟨b, 2, none⟩ = false ∧ Y.frozen? ⟨b, 3, none⟩ = false ∧ Y.frozen? ⟨b, 4, none⟩ = false)
theorem StAt.five5 {Y : World} {b : Nat} {mem : Nat → Int} {SA : Option Addr} {qn qc : Nat} (h : StAt Y b mem SA qn qc) : Cells5 Y b mem SA qn qc := ⟨h.m (by decide), h.m (by decide), h.m (by decide), h.m (by decide), h.s⟩
theorem StAt.free5 {Y : World} {b : Nat} {mem : Nat → Int} {SA : Option Addr} {qn qc : Nat} (h : StAt Y b mem SA qn qc) : Free5 Y b := ⟨h.fr 0, h.fr 1, h.fr 2, h.fr 3, h.fr 4⟩

set_option maxRecDepth 100000 in
set_option maxHeartbeats 40000000 in
theorem own_any (S : Option Addr) (sn sc : Nat) (sl : List Int) (mo : Int) (w : World) (hs : Sl w w.heap.size 1 byteCells S sn sl) (hl : ∀ (i : Nat) (x : Int), sl[i]? = some x → 0 ≤ x ∧ x ≤ 255) (hnc : sn ≤ sc) (hn : sn ≤ 9223372036854775807) (hc : sc ≤ 9223372036854775807) (h2 : -9223372036854775808 ≤ mo ∧ mo ≤ 9223372036854775807) :
    Calls Try.prog 3 #[.slice S sn sc, .int .i64 mo] w fun e w' => e = .returned (.bool true) ∧ Below w.heap.size w w' := by
  have HS := Lib.hid hs
  have HL := Lib.hid hl
  have HMO := Lib.hid h2
  have HNC := Lib.hid hnc
  obtain ⟨m, hm4, hmm⟩ : ∃ m : Nat, m < 4 ∧ (m : Int) = mo % 4 := ⟨(mo % 4).toNat, by omega, by omega⟩
  have HMM := Lib.hid hmm
  clear hs hl h2 hmm
  go_enter Try.func3, Try.ntmps3
  go_wp2_with fail
  refine (sane_any w).mono ?_
  rintro e w1 ⟨rfl, hb1⟩
  go_wp2_with fail
  refine (new_dice S sn sc sl w1 (HS.out.up hb1) HL.out HNC.out hn hc).mono ?_
  rintro e w2 ⟨d, rfl, hD, hd, hb2⟩
  have hbw2 : Below w.heap.size w w2 := hb1.trans (hb2.mono hb1.size)
  have hdl := hD.lt
  have hdw : w.heap.size ≤ d := by have := hb1.size; omega
  go_wp2_with fail
  refine (threads_any d w2 hD).mono ?_
  rintro e w3 ⟨A, n, c, l, rfl, hMk, hMT, hT⟩
  have hbw3 : Below w.heap.size w w3 := hbw2.trans (hT.below hdw hbw2.size)
  have hdl3 : d < w3.heap.size := hT.dice.lt
  have D3 := Lib.hid hT.dice
  have hn1 : 1 ≤ n := by have := hMT.1.1; rw [List.length_map, hMk.len] at this; exact this
  have hnc1 : n ≤ c := hMk.row.le
  have hc1 : (1 : Int) ≤ (c : Int) := by omega
  have hc1' : 1 ≤ c := by omega
  obtain ⟨x, lr, rfl⟩ : ∃ x lr, l = x :: lr := by
    match l, hMk.len with
    | [], h => simp at h; omega
    | x :: lr, _ => exact ⟨x, lr, rfl⟩
  have HTA := Lib.hid (hMk.out hdl).first
  have HML := Lib.hid (hMT.2 x.s (by simp))
  have HRO := Lib.hid (show Rooms [x] from fun t ht => hMk.rooms t (by simp at ht; subst ht; exact List.mem_cons_self ..))
  have HSM := Lib.hid (show ∀ t ∈ [x], t.n ≤ 9000000000000 from fun t ht => hMk.small t (by simp at ht; subst ht; exact List.mem_cons_self ..))
  have HVAL := Lib.hid (show validT ([x].map Th.s) = true from (own_ok HML.out (own_start 0 x.s) (by omega) (by omega)).1)
  have H8 := Lib.hid (show ∀ q ∈ [x.s], q.length ≤ 8 from fun q hq => by simp at hq; subst hq; have := HML.out.1; omega)
  clear hD hMk hMT hT hnc1
  go_upto_region 5 with fail
  go_upto_region 6 with (first | (go_at_call 11; refine (new_ok A 1 c [x] w3 HTA.out.t (by omega) HSM.out HVAL.out).mono ?_; rintro e Y ⟨A1, c1, rfl, hok1, hbY, hl1⟩; have HOK1 := Lib.hid hok1; have HL1 := Lib.hid hl1; clear hok1 hl1; have KZ := Lib.hid (StAt.new Y (fun _ => 0) none 0 0)) | (with_reducible refine wpList_store_st rfl (.tmp 7) (.tmp 23) rfl (mem := mem0) (A := A1) (n := 1) (c := c1) (by simp [Act.eval]) (by simp [Act.eval]) KZ.out ?_; intro W1 hst hgr; have HST := Lib.hid hst; have HGR := Lib.hid hgr; clear hst hgr))
  have hbv : Below Y.heap.size Y W1 := below_var HGR.out
  have hzv : Y.heap.size + 1 ≤ W1.heap.size := size_var HGR.out
  have hzY := hbY.size
  have hb3 : Below w3.heap.size w3 W1 := hbY.trans (hbv.mono hbY.size)
  have HOK := Lib.hid (HOK1.out.up hbv)
  have HL1 := Lib.hid (show ∀ ad, A1 = some ad → w3.heap.size ≤ ad.block ∧ ad.block < Y.heap.size from HL1.out)
  have HTX := Lib.hid (show ThA W1 Y.heap.size A 1 [x] from (ThA.new HTA.out.t hzY).up hb3)
  obtain ⟨bx, hbx⟩ : ∃ bx, bx = Y.heap.size := ⟨_, rfl⟩
  rw [← hbx] at HST HL1 HTX hzv ⊢
  have hbx0 : w3.heap.size ≤ bx := by omega
  clear HGR KZ HOK1 hbx hbv hzY hbY
  have hz13 := hb3.size
  go_upto_region 7 with (first | (go_at_call 11; refine (new_ok A 1 c [x] W1 (HTA.out.up hb3).t (by omega) HSM.out HVAL.out).mono ?_; rintro e Y2 ⟨A2, c2, rfl, hok2, hbY2, hl2⟩; have HOK2 := Lib.hid hok2; have HL2 := Lib.hid hl2; clear hok2 hl2; have KZ := Lib.hid (StAt.new Y2 (fun _ => 0) none 0 0)) | (with_reducible refine wpList_store_st rfl (.tmp 9) (.tmp 28) rfl (mem := mem0) (A := A2) (n := 1) (c := c2) (by simp [Act.eval]) (by simp [Act.eval]) KZ.out ?_; intro W2 hst hgr; have HSU := Lib.hid hst; have HGR := Lib.hid hgr; clear hst hgr))
  have hbv : Below Y2.heap.size Y2 W2 := below_var HGR.out
  have hzv2 : Y2.heap.size + 1 ≤ W2.heap.size := size_var HGR.out
  have hzY2 := hbY2.size
  have hb4 : Below W1.heap.size W1 W2 := hbY2.trans (hbv.mono hbY2.size)
  have hb34 : Below w3.heap.size w3 W2 := hb3.trans (hb4.mono hz13)
  have HOU := Lib.hid (HOK2.out.up hbv)
  have HOX := Lib.hid (HOK.out.up hb4)
  have HSX := Lib.hid (HST.out.below hb4 (by omega))
  have HTX2 := Lib.hid (HTX.out.up hb4)
  have HTU := Lib.hid (show ThA W2 Y2.heap.size A 1 [x] from (ThA.new (HTA.out.up hb3).t hzY2).up hb4)
  have HTD := Lib.hid (HTA.out.up hb34)
  have DI := Lib.hid (D3.out.below hb34)
  have hbw4 : Below w.heap.size w W2 := hbw3.trans (hb34.mono hbw3.size)
  obtain ⟨by_, hby⟩ : ∃ by_, by_ = Y2.heap.size := ⟨_, rfl⟩
  have HFX := Lib.hid (show Off A1 1 (List.replicate 1 tr0) bx ∧ Off A1 1 (List.replicate 1 tr0) d ∧ Off A1 1 (List.replicate 1 tr0) by_ from ⟨Off.of_new HL1.out (.inr (Nat.le_refl _)), Off.of_new HL1.out (.inl (by omega)), Off.of_new HL1.out (.inr (by omega))⟩)
  have HFU := Lib.hid (show Off A2 1 (List.replicate 1 tr0) bx ∧ Off A2 1 (List.replicate 1 tr0) d ∧ Off A2 1 (List.replicate 1 tr0) by_ from ⟨Off.of_new HL2.out (.inl (by omega)), Off.of_new HL2.out (.inl (by omega)), Off.of_new HL2.out (.inr (by omega))⟩)
  rw [← hby] at HSU HTU hzv2 ⊢
  have hxy : bx < by_ := by omega
  have hdx : d < bx := by omega
  clear HGR KZ HOK2 hby hbv hzY2 hbY2 HOK HST HTX HTA D3 HL1 HL2
  have hm3I : (m : Int) ≤ 3 := by omega
  go_loopg [8] (left2 [x.s] ((List.replicate 1 tr0).map Tr.pt)) (fun gk ev wr => ∃ (mem : Nat → Int) (SA : Option Addr) (qn qc : Nat) (ts : List Tr), ev = .int .i64 0 ∧ Hid (StAt wr bx mem SA qn qc) ∧ Hid (Okay wr SA qn qc ts) ∧ Hid (Off SA qn ts bx ∧ Off SA qn ts d ∧ Off SA qn ts by_) ∧ Hid (Own m x.s mem (ts.map Tr.pt)) ∧ Hid (ThA wr d A 1 [x]) ∧ Hid (ThA wr bx A 1 [x]) ∧ Hid (ThA wr by_ A 1 [x]) ∧ Hid (StAt wr by_ mem0 A2 1 c2) ∧ Hid (Okay wr A2 1 c2 (List.replicate 1 tr0)) ∧ Hid (Dice wr d) ∧ Hid (left2 [x.s] (ts.map Tr.pt) ≤ gk) ∧ by_ + 1 ≤ wr.heap.size ∧ Below w.heap.size w wr)
  case atStart => exact ⟨mem0, A1, 1, c1, List.replicate 1 tr0, rfl, HSX, HOX, HFX, Lib.hid (own_start m x.s), HTD, HTX2, HTU, HSU, HOU, DI, Lib.hid (Nat.le_refl _), by omega, hbw4⟩
  case round =>
    obtain ⟨mem, SA, qn, qc, ts, rfl, hst, hok, hof, hsw, htd, htx, htu, hsu, hou, hdi, hleft, hzr', hbr'⟩ := hrel
    rename World => wq
    have HQ3 := hok.out.n3
    have HVQ := Lib.hid (own_ok HML.out hsw.out (by omega) hm3I).2
    go_wp2_with (first | (with_reducible refine wpList_load_st rfl (.tmp 7) rfl (by simp [Act.eval, Act.put]) hst.out ?_))
    refine (ended_any A 1 c [x] mem SA qn qc ts wq htd.out.t (by omega) HRO.out hok.out.s hok.out.r (by omega) HSM.out).mono ?_
    rintro e y1 ⟨rfl, hy1⟩
    have st1 := Lib.hid (hst.out.below hy1 (by omega))
    have ok1 := Lib.hid (hok.out.up hy1)
    have td1 := Lib.hid (htd.out.up hy1)
    have tx1 := Lib.hid (htx.out.up hy1)
    have tu1 := Lib.hid (htu.out.up hy1)
    have su1 := Lib.hid (hsu.out.below hy1 (by omega))
    have ou1 := Lib.hid (hou.out.up hy1)
    have di1 := Lib.hid (hdi.out.below hy1)
    have by1 : Below w.heap.size w y1 := hbr'.trans (hy1.mono hbr'.size)
    have zy1 := hy1.size
    cases hE : endedP ([x].map Th.s) (ts.map Tr.pt) with
    | false =>
      have hmv := has_move HVQ.out H8.out hE
      have HMV := Lib.hid hmv
      clear hE hmv
      go_upto_region 8 with fail
      have Q0 := Lib.hid st1.out.five5
      obtain ⟨q0, q1, q2, q3, q4⟩ := Q0.out
      go_cut [11] (fun lv wx => ∃ (A3 : Option Addr) (n3 c3 : Nat), lv = .slice A3 n3 c3 ∧ Hid (n3 = (movesP m ([x].map Th.s) (ts.map Tr.pt)).length) ∧ Hid (Sl wx wx.heap.size 3 Mv.cells A3 n3 (movesP m ([x].map Th.s) (ts.map Tr.pt))) ∧ Hid (0 < n3 → ∀ ad, A3 = some ad → y1.heap.size ≤ ad.block) ∧ Below y1.heap.size y1 wx)
      case first =>
        go_region_held3 (fun w' => w'.cell? ⟨bx, 0, none⟩ = some (.int .i64 (mem 0)) ∧ w'.cell? ⟨bx, 1, none⟩ = some (.int .i64 (mem 1)) ∧ w'.cell? ⟨bx, 2, none⟩ = some (.int .i64 (mem 2)) ∧ w'.cell? ⟨bx, 3, none⟩ = some (.int .i64 (mem 3)) ∧ w'.cell? ⟨bx, 4, none⟩ = some (.slice SA qn qc)) (first | exact Q0.out | exact Q1.out | exact Q2.out)
          (first
            | (go_at_call 14; refine (mod_any mo 4 y1.drew (by decide) (by decide) HMO.out).mono ?_; rintro e x1 ⟨r, hr, hre, rfl, hz1⟩; obtain rfl : r = m := (by have := HMM.out; omega); clear hre; have bx1 : Below y1.heap.size y1 x1 := (Below.drew (Below.refl _ _)).trans hz1; have Q1 := Lib.hid (st1.out.below bx1 (by omega)).five5; have td2 := Lib.hid (td1.out.up bx1); have ok2 := Lib.hid (ok1.out.up bx1))
            | (go_at_call 13; refine (moves_any r A 1 c [x] (mem 0) (mem 1) (mem 2) (mem 3) SA qn qc ts x1 td2.out.t (by omega) HSM.out HRO.out ok2.out.s ok2.out.r (by omega)).mono ?_; rintro e x2 ⟨A3, n3, c3, rfl, hn3, hnc3, hc3, hsl3, hy2, hlo3⟩; have bx2 : Below y1.heap.size y1 x2 := bx1.trans (hy2.mono bx1.size); have Q2 := Lib.hid (st1.out.below bx2 (by omega)).five5; have HN3 := Lib.hid hn3; have HSL3 := Lib.hid hsl3; have HLO3 := Lib.hid (show 0 < n3 → ∀ ad, A3 = some ad → y1.heap.size ≤ ad.block from fun h ad e => Nat.le_trans bx1.size (hlo3 h ad e)); clear hn3 hsl3 hlo3))
        all_goals
          go_wp2
          go_meet
          exact ⟨A3, n3, c3, rfl, HN3, HSL3, HLO3, bx2⟩
      rename World => y2
      obtain ⟨A3, n3, c3, rfl, HN3, HSL3, hbl3, hy2⟩ := hcut
      clear q0 q1 q2 q3 q4
      have hn30 : 0 < n3 := by rw [HN3.out]; exact List.length_pos_iff.2 HMV.out
      have hn3b : n3 ≤ 4000 := by
        rw [HN3.out]
        unfold movesP
        split
        · have := mvs_len (m := m) (ths := [x].map Th.s) (ts := ts.map Tr.pt) H8.out (fun y hy => by obtain ⟨z, hz, rfl⟩ := List.mem_map.1 hy; show z.q.length ≤ 1000; rw [(ok1.out.s.q z hz).len]; exact (ok1.out.r z hz).2.2) 1
          show (mvs _ _ _ 1).length ≤ _
          omega
        · simp
      have st2 := Lib.hid (st1.out.below hy2 (by omega))
      have ok2 := Lib.hid (ok1.out.up hy2)
      have td2 := Lib.hid (td1.out.up hy2)
      have tx2 := Lib.hid (tx1.out.up hy2)
      have tu2 := Lib.hid (tu1.out.up hy2)
      have su2 := Lib.hid (su1.out.below hy2 (by omega))
      have ou2 := Lib.hid (ou1.out.up hy2)
      have di2 := Lib.hid (di1.out.below hy2)
      have by2 : Below w.heap.size w y2 := by1.trans (hy2.mono by1.size)
      have zy2 := hy2.size
      have hn30' : ((n3 : Int) == 0) = false := by simp; omega
      clear st1 ok1 td1 tx1 tu1 su1 ou1 Q0
      go_upto_region 11 with fail
      obtain ⟨mb, mo', rfl, hmlt, hmat⟩ := HSL3.out.at_ hn30
      have hmd : mb ≠ d := by have := hbl3.out hn30 _ rfl; have := di1.out.lt; simp only at *; omega
      have KM := Lib.hid (show ∀ Y, Thrown y2 d Y → ∀ (i : Nat) (v : Mv), (movesP m ([x].map Th.s) (ts.map Tr.pt))[i]? = some v → Y.cell? ⟨mb, mo' + i * 3, none⟩ = some (.int .i64 v.thread) ∧ Y.cell? ⟨mb, mo' + i * 3 + 1, none⟩ = some (.int .i64 v.op) ∧ Y.cell? ⟨mb, mo' + i * 3 + 2, none⟩ = some (.int .i64 v.store) from fun Y hY i v hv =>
        ⟨(hY.cell hmlt hmd).trans (by have := hmat i v hv 0 _ rfl; simpa using this), (hY.cell hmlt hmd).trans (hmat i v hv 1 _ rfl), (hY.cell hmlt hmd).trans (hmat i v hv 2 _ rfl)⟩)
      obtain ⟨q0, q1, q2, q3, q4⟩ := st2.out.five5
      clear hmat
      go_region_law (first
        | (go_simp; go_at_call 14; refine (mod_any mo 4 _ (by decide) (by decide) HMO.out).mono ?_; rintro e x1 ⟨r, hr, hre, rfl, hz1⟩; obtain rfl : r = m := (by have := HMM.out; omega); clear hre; have bx1 : Below y2.heap.size y2 x1 := (show Below y2.heap.size y2 _ from (by repeat (first | (with_reducible exact (Below.refl _ _)) | (with_reducible refine Below.drew ?_) | (with_reducible refine below_drewN ?_ _) | (with_reducible refine Below.setCell ?_ ?_ _; rotate_left; (first | omega | (simp <;> omega))) | (with_reducible refine Below.alloc ?_ ?_ _; rotate_left; (first | omega | (simp <;> omega)))))).trans hz1; clear hz1; obtain ⟨q0', q1', q2', q3', q4'⟩ := (st2.out.below bx1 (by omega)).five5; have di3 := Lib.hid (di2.out.below bx1))
        | (go_simp; go_at_call 16; refine (pick_any d n3 x1 di3.out hn30 (by omega)).mono ?_; rintro e Y ⟨p, hp, rfl, ht, hz⟩; have hT : Thrown y2 d Y := (Thrown.of_below di2.out bx1).trans ht; have HTY := Lib.hid hT; obtain ⟨v, hv⟩ : ∃ v, (movesP r ([x].map Th.s) (ts.map Tr.pt))[p]? = some v := ⟨_, List.getElem?_eq_getElem (by rw [← HN3.out]; exact hp)⟩; have HV := Lib.hid hv; obtain ⟨v0, v1, v2⟩ := KM.out Y hT p v hv; clear hv ht hT; have hpI : (p : Int) < (n3 : Int) := (by omega); have stY := Lib.hid (st2.out.grown HTY.out.grown (by omega) (by intro e; injection e with e; omega)); obtain ⟨q0'', q1'', q2'', q3'', q4''⟩ := stY.out.five5; have okY := Lib.hid (ok2.out.put hof.out.2.1 HTY.out.grown); have tdY := Lib.hid (td2.out.put HTY.out.grown); have txY := Lib.hid (tx2.out.put2 td2.out HTY.out.grown); have tuY := Lib.hid (tu2.out.put2 td2.out HTY.out.grown); have suY := Lib.hid (su2.out.grown HTY.out.grown (by omega) (by intro e; injection e with e; omega)); have ouY := Lib.hid (ou2.out.put HFU.out.2.1 HTY.out.grown))
        | (go_simp; go_at_call 15; refine (do_ok r A 1 c [x] mem SA qn qc ts v Y tdY.out.t (by omega) HSM.out HRO.out okY.out HVAL.out (List.mem_of_getElem? HV.out)).mono ?_; rintro e Z ⟨A4, n4, c4, ts2, rfl, hok2, hpt2, hbZ, hl1, hl2⟩; have HOK2 := Lib.hid hok2; have HPT2 := Lib.hid hpt2; have HLA := Lib.hid hl1; have HLB := Lib.hid hl2; clear hok2 hpt2 hl1 hl2; have stZ := Lib.hid (stY.out.below hbZ (by have := HTY.out.size; omega)); obtain ⟨z0, z1, z2, z3, z4⟩ := stZ.out.five5; obtain ⟨f0, f1, f2, f3, f4⟩ := stZ.out.free5; clear q0 q1 q2 q3 q4 q0' q1' q2' q3' q4' q0'' q1'' q2'' q3'' q4''))
      all_goals
        go_wp2
        obtain ⟨sf1, sf2⟩ := own_facts (mem := mem) HML.out (List.mem_of_getElem? HV.out) hsw.out
        have hpt3 : ts2.map Tr.pt = (stepF r [x.s] mem (ts.map Tr.pt) v).2 := HPT2.out
        rw [← hpt3] at sf1 sf2
        have sf1 := Lib.hid sf1
        have hgk : 1 ≤ gk := by have := hleft.out; omega
        have hleft2 := Lib.hid (show left2 [x.s] (ts2.map Tr.pt) ≤ gk - 1 from by have := hleft.out; omega)
        clear sf2 hpt3
        have hbyY : Below w.heap.size w Y := by2.trans (HTY.out.below hdw by2.size)
        have hbyZ : Below w.heap.size w Z := hbyY.trans (hbZ.mono hbyY.size)
        have zY := HTY.out.size
        have zZ := hbZ.size
        have G5 := Lib.hid (grown_five Z bx (.int .i64 ((stepF r ([x].map Th.s) mem (ts.map Tr.pt) v).1 0)) (.int .i64 ((stepF r ([x].map Th.s) mem (ts.map Tr.pt) v).1 1)) (.int .i64 ((stepF r ([x].map Th.s) mem (ts.map Tr.pt) v).1 2)) (.int .i64 ((stepF r ([x].map Th.s) mem (ts.map Tr.pt) v).1 3)) (.slice A4 n4 c4))
        have S5 := Lib.hid (stZ.out.five (stepF r ([x].map Th.s) mem (ts.map Tr.pt) v).1 A4 n4 c4)
        have OF := Lib.hid (show Off A4 n4 ts2 bx ∧ Off A4 n4 ts2 d ∧ Off A4 n4 ts2 by_ from ⟨Off.of_lows HLA.out HLB.out (by omega), Off.of_lows HLA.out HLB.out (by omega), Off.of_lows HLA.out HLB.out (by omega)⟩)
        go_roundg (gk - 1)
        case measure => omega
        case rel => exact ⟨(stepF r ([x].map Th.s) mem (ts.map Tr.pt) v).1, A4, n4, c4, ts2, rfl, S5, Lib.hid (HOK2.out.put OF.out.1 G5.out), OF, sf1, Lib.hid ((tdY.out.up hbZ).put2 ((txY.out).up hbZ) G5.out), Lib.hid ((txY.out.up hbZ).put G5.out), Lib.hid ((tuY.out.up hbZ).put2 ((txY.out).up hbZ) G5.out), Lib.hid ((suY.out.below hbZ (by omega)).grown G5.out (by omega) (by intro e; injection e with e; omega)), Lib.hid ((ouY.out.up hbZ).put HFU.out.1 G5.out), Lib.hid ((HTY.out.dice.below hbZ).grown G5.out (fun g hg => by injection hg with hg; omega)), hleft2, by simp; omega, hbyZ.grown G5.out hbyZ.size (fun g hg => by injection hg with hg; omega)⟩
    | true =>
      obtain ⟨u, hts, hur, hum⟩ := own_last hsw.out hE
      subst hts
      have HUR := Lib.hid hur
      have HUM := Lib.hid hum
      have hqn1 : 1 ≤ qn := by have h := ok1.out.s.sl.len; simp at h; omega
      have hqn2 : qn ≤ 1 := by have h := ok1.out.s.sl.len; simp at h; omega
      have HFB := Lib.hid hof.out.2.2
      have HFU2 := Lib.hid HFU.out.2.2
      clear hE hur hum hst hok hof hsw htd htx htu hsu hou hdi hleft td1 tx1 di1 HVQ HFU HFX HSX HOX HTD HTX2 HTU HSU HOU DI
      go_upto_region 12 with fail
      go_loopg [10] (left2 [x.s] ((List.replicate 1 tr0).map Tr.pt)) (fun gk ev wr => ∃ (mem2 : Nat → Int) (SB : Option Addr) (rn rc : Nat) (us : List Tr), ev = .int .i64 0 ∧ Hid (StAt wr by_ mem2 SB rn rc) ∧ Hid (Okay wr SB rn rc us) ∧ Hid (Off SB rn us by_) ∧ Hid (Own 0 x.s mem2 (us.map Tr.pt)) ∧ Hid (ThA wr by_ A 1 [x]) ∧ Hid (StAt wr bx mem SA qn qc) ∧ Hid (Okay wr SA qn qc [u]) ∧ Hid (left2 [x.s] (us.map Tr.pt) ≤ gk) ∧ by_ + 1 ≤ wr.heap.size ∧ Below w.heap.size w wr)
      case atStart => exact ⟨mem0, A2, 1, c2, List.replicate 1 tr0, rfl, su1, ou1, HFU2, Lib.hid (own_start 0 x.s), tu1, st1, ok1, Lib.hid (Nat.le_refl _), by omega, by1⟩
      case round =>
        obtain ⟨mem2, SB, rn, rc, us, rfl, hst, hok, hof, hsw, htu, hsx, hox, hleft, hzr2, hbr2⟩ := hrel
        rename World => wz
        have HQ4 := hok.out.n3
        have HVQ := Lib.hid (own_ok HML.out hsw.out (by omega) (by omega)).2
        go_wp2_with (first | (with_reducible refine wpList_load_st rfl (.tmp 9) rfl (by simp [Act.eval, Act.put]) hst.out ?_))
        refine (ended_any A 1 c [x] mem2 SB rn rc us wz htu.out.t (by omega) HRO.out hok.out.s hok.out.r (by omega) HSM.out).mono ?_
        rintro e z1 ⟨rfl, hz1⟩
        have st2 := Lib.hid (hst.out.below hz1 (by omega))
        have ok2 := Lib.hid (hok.out.up hz1)
        have tu2 := Lib.hid (htu.out.up hz1)
        have sx2 := Lib.hid (hsx.out.below hz1 (by omega))
        have ox2 := Lib.hid (hox.out.up hz1)
        have by2 : Below w.heap.size w z1 := hbr2.trans (hz1.mono hbr2.size)
        have zz1 := hz1.size
        cases hE : endedP ([x].map Th.s) (us.map Tr.pt) with
        | false =>
          have HN1 := Lib.hid (own_one hsw.out HVQ.out (H8.out _ (List.mem_singleton_self _)) hE)
          clear hE
          go_wp2_with (first | (with_reducible refine wpList_load_st rfl (.tmp 9) rfl (by simp [Act.eval, Act.put]) st2.out ?_))
          refine (moves_any 0 A 1 c [x] (mem2 0) (mem2 1) (mem2 2) (mem2 3) SB rn rc us z1 tu2.out.t (by omega) HSM.out HRO.out ok2.out.s ok2.out.r (by omega)).mono ?_
          rintro e z2 ⟨A3, n3, c3, rfl, hn3, hnc3, hc3, hsl3, hz2, hlo3⟩
          obtain rfl : n3 = 1 := hn3.trans HN1.out
          have HSL3 := Lib.hid hsl3
          clear hn3 hsl3 hlo3
          have st3 := Lib.hid (st2.out.below hz2 (by omega))
          have ok3 := Lib.hid (ok2.out.up hz2)
          have tu3 := Lib.hid (tu2.out.up hz2)
          have sx3 := Lib.hid (sx2.out.below hz2 (by omega))
          have ox3 := Lib.hid (ox2.out.up hz2)
          have by3 : Below w.heap.size w z2 := by2.trans (hz2.mono by2.size)
          have zz2 := hz2.size
          go_upto_region 16 with fail
          obtain ⟨mb, mo', rfl, hmlt, hmat⟩ := HSL3.out.at_ (by decide)
          obtain ⟨v, hv⟩ : ∃ v, (movesP 0 ([x].map Th.s) (us.map Tr.pt))[0]? = some v := ⟨_, List.getElem?_eq_getElem (by rw [HSL3.out.len]; decide)⟩
          have v0 : z2.cell? ⟨mb, mo', none⟩ = some (.int .i64 v.thread) := by have := hmat 0 v hv 0 _ rfl; simpa using this
          have v1 : z2.cell? ⟨mb, mo' + 1, none⟩ = some (.int .i64 v.op) := by have := hmat 0 v hv 1 _ rfl; simpa using this
          have v2 : z2.cell? ⟨mb, mo' + 2, none⟩ = some (.int .i64 v.store) := by have := hmat 0 v hv 2 _ rfl; simpa using this
          have HV := Lib.hid hv
          obtain ⟨q0, q1, q2, q3, q4⟩ := st3.out.five5
          clear hmat hv
          go_region_law (first
            | (go_simp; go_at_call 15; refine (do_ok 0 A 1 c [x] mem2 SB rn rc us v _ (tu3.out.up (by repeat (first | (with_reducible exact (Below.refl _ _)) | (with_reducible refine Below.drew ?_) | (with_reducible refine below_drewN ?_ _) | (with_reducible refine Below.setCell ?_ ?_ _; rotate_left; (first | omega | (simp <;> omega))) | (with_reducible refine Below.alloc ?_ ?_ _; rotate_left; (first | omega | (simp <;> omega)))))).t (by omega) HSM.out HRO.out (ok3.out.up (by repeat (first | (with_reducible exact (Below.refl _ _)) | (with_reducible refine Below.drew ?_) | (with_reducible refine below_drewN ?_ _) | (with_reducible refine Below.setCell ?_ ?_ _; rotate_left; (first | omega | (simp <;> omega))) | (with_reducible refine Below.alloc ?_ ?_ _; rotate_left; (first | omega | (simp <;> omega)))))) HVAL.out (List.mem_of_getElem? HV.out)).mono ?_; rintro e Z ⟨A4, n4, c4, ts2, rfl, hok2, hpt2, hbZ0, hl1, hl2⟩; have hbZ : Below z2.heap.size z2 Z := (show Below z2.heap.size z2 _ from (by repeat (first | (with_reducible exact (Below.refl _ _)) | (with_reducible refine Below.drew ?_) | (with_reducible refine below_drewN ?_ _) | (with_reducible refine Below.setCell ?_ ?_ _; rotate_left; (first | omega | (simp <;> omega))) | (with_reducible refine Below.alloc ?_ ?_ _; rotate_left; (first | omega | (simp <;> omega)))))).trans hbZ0; have HOK2 := Lib.hid hok2; have HPT2 := Lib.hid hpt2; have HLA := Lib.hid (show ∀ ad, A4 = some ad → z2.heap.size ≤ ad.block from hl1); have HLB := Lib.hid (show ∀ t ∈ ts2, ∀ ad, t.A = some ad → z2.heap.size ≤ ad.block from hl2); clear hok2 hpt2 hl1 hl2 hbZ0; have stZ := Lib.hid (st3.out.below hbZ (by omega)); obtain ⟨z0', z1', z2', z3', z4'⟩ := stZ.out.five5; obtain ⟨f0, f1, f2, f3, f4⟩ := stZ.out.free5; clear q0 q1 q2 q3 q4))
          all_goals
            go_wp2
            obtain ⟨sf1, sf2⟩ := own_facts (mem := mem2) HML.out (List.mem_of_getElem? HV.out) hsw.out
            have hpt3 : ts2.map Tr.pt = (stepF 0 [x.s] mem2 (us.map Tr.pt) v).2 := HPT2.out
            rw [← hpt3] at sf1 sf2
            have sf1 := Lib.hid sf1
            have hgk : 1 ≤ gk := by have := hleft.out; omega
            have hleft2 := Lib.hid (show left2 [x.s] (ts2.map Tr.pt) ≤ gk - 1 from by have := hleft.out; omega)
            clear sf2 hpt3
            have hbyZ : Below w.heap.size w Z := by3.trans (hbZ.mono by3.size)
            have zZ := hbZ.size
            have G5 := Lib.hid (grown_five Z by_ (.int .i64 ((stepF 0 ([x].map Th.s) mem2 (us.map Tr.pt) v).1 0)) (.int .i64 ((stepF 0 ([x].map Th.s) mem2 (us.map Tr.pt) v).1 1)) (.int .i64 ((stepF 0 ([x].map Th.s) mem2 (us.map Tr.pt) v).1 2)) (.int .i64 ((stepF 0 ([x].map Th.s) mem2 (us.map Tr.pt) v).1 3)) (.slice A4 n4 c4))
            have S5 := Lib.hid (stZ.out.five (stepF 0 ([x].map Th.s) mem2 (us.map Tr.pt) v).1 A4 n4 c4)
            have OF := Lib.hid (show Off A4 n4 ts2 by_ from Off.of_lows HLA.out HLB.out (by omega))
            go_roundg (gk - 1)
            case measure => omega
            case rel => exact ⟨(stepF 0 ([x].map Th.s) mem2 (us.map Tr.pt) v).1, A4, n4, c4, ts2, rfl, S5, Lib.hid (HOK2.out.put OF.out G5.out), OF, sf1, Lib.hid ((tu3.out.up hbZ).put G5.out), Lib.hid ((sx3.out.below hbZ (by omega)).grown G5.out (by omega) (by intro e; injection e with e; omega)), Lib.hid ((ox3.out.up hbZ).put HFB.out G5.out), hleft2, by simp; omega, hbyZ.grown G5.out hbyZ.size (fun g hg => by injection hg with hg; omega)⟩
        | true =>
          obtain ⟨u2, hus, hur2, hum2⟩ := own_last hsw.out hE
          subst hus
          have hrn1 : 1 ≤ rn := by have h := ok2.out.s.sl.len; simp at h; omega
          have hrn0 : (0 : Int) < (rn : Int) := by omega
          have hqn0 : (0 : Int) < (qn : Int) := by omega
          obtain ⟨gx, ox, hSA, hgx, hgat⟩ := ox2.out.s.sl.at_ (by omega)
          obtain ⟨gy, oy, hSB, hgy, hhat⟩ := ok2.out.s.sl.at_ (by omega)
          subst hSA hSB
          obtain ⟨M, hM⟩ : ∃ M, M = (seqL x.s).1 := ⟨_, rfl⟩
          obtain ⟨R, hR⟩ : ∃ R, R = (seqL x.s).2 := ⟨_, rfl⟩
          obtain ⟨q0, q1, q2, q3, q4⟩ := sx2.out.five5
          obtain ⟨p0, p1, p2, p3, p4⟩ := st2.out.five5
          have rx : ∀ q, q < 8 → z1.cell? ⟨gx, ox + (8 + q), none⟩ = some (.int .i64 (R q)) := fun q hq => by
            have h := hgat 0 u rfl (8 + q) _ (tr_reg u hq)
            rw [HUR.out, ← hR] at h
            simpa using h
          have ry : ∀ q, q < 8 → z1.cell? ⟨gy, oy + (8 + q), none⟩ = some (.int .i64 (R q)) := fun q hq => by
            have h := hhat 0 u2 rfl (8 + q) _ (tr_reg u2 hq)
            rw [hur2, ← hR] at h
            simpa using h
          rw [HUM.out, ← hM] at q0 q1 q2 q3
          rw [hum2, ← hM] at p0 p1 p2 p3
          have x0 := rx 0 (by decide)
          have x1 := rx 1 (by decide)
          have x2 := rx 2 (by decide)
          have x3 := rx 3 (by decide)
          have x4 := rx 4 (by decide)
          have x5 := rx 5 (by decide)
          have x6 := rx 6 (by decide)
          have x7 := rx 7 (by decide)
          have y0 := ry 0 (by decide)
          have y1' := ry 1 (by decide)
          have y2 := ry 2 (by decide)
          have y3 := ry 3 (by decide)
          have y4 := ry 4 (by decide)
          have y5 := ry 5 (by decide)
          have y6 := ry 6 (by decide)
          have y7 := ry 7 (by decide)
          simp only [Nat.add_zero, ← Nat.add_assoc] at x0 x1 x2 x3 x4 x5 x6 x7 y0 y1' y2 y3 y4 y5 y6 y7
          have heq := fun w => eqMem.1 M M w
          have hgd := fun op a b w => eqMem.2 op a b M M w
          have heq2 := fun w => eqRegs.1 R R w
          have hgd2 := fun op a b w => eqRegs.2 op a b R R w
          simp only [same4_refl, same8_refl] at heq heq2
          unfold memVal at heq hgd
          unfold regVal at heq2 hgd2
          clear rx ry hgat hhat hM hR hE hur2 hum2
          go_upto_region 17 with fail
          go_quiet (fail)
          go_wp2
          go_ret
          exact ⟨rfl, below_drewN by2 _⟩
end Go.Proofs.Ytnomghcieomjmaa
