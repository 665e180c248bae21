/- Threads never block: the walk. -/
import Derived.Test.YtnomghcieomjmaaSn
import Derived.Test.YtnomghcieomjmaaTH
import Derived.Test.YtnomghcieomjmaaDMod
import Derived.Test.YtnomghcieomjmaaFv
import Derived.Test.YtnomghcieomjmaaSa
namespace Go.Proofs.Ytnomghcieomjmaa
open Go.RowKit

theorem ends_facts {m : Int} {ls : List (List POp)} {mem : Nat → Int} {ts : List Pt} {v : Mv} (h : v ∈ movesP m ls ts) : (stepF m ls mem ts v).2.length = ts.length ∧ left2 ls (stepF m ls mem ts v).2 < left2 ls ts := by
  obtain ⟨mem', ts', hst⟩ := mem_stp mem h
  rw [stp_fun hst]
  exact ⟨stp_len hst, stp_left hst⟩
theorem not_same {m : Int} {ls : List (List POp)} {mem : Nat → Int} {ts : List Pt} {v : Mv} (h8 : ∀ l ∈ ls, l.length ≤ 8) (h : v ∈ movesP m ls ts) : sameSt mem ts (stepF m ls mem ts v).1 (stepF m ls mem ts v).2 = false := by
  obtain ⟨h1, h2⟩ := ends_facts (mem := mem) h
  cases hS : sameSt mem ts (stepF m ls mem ts v).1 (stepF m ls mem ts v).2 with
  | false => rfl
  | true =>
    unfold sameSt at hS
    rw [Bool.and_eq_true] at hS
    have := left_like (ls := ls) (ts := ts) (us := (stepF m ls mem ts v).2) h8 h1.symm (fun k t u ht hu => by
      have h3 := sameTs_at hS.2 ht hu
      unfold samePt at h3
      simp only [Bool.and_eq_true, decide_eq_true_eq] at h3
      exact ⟨fun i hi => same8_iff.1 h3.1 i hi, h3.2.2⟩)
    omega
def tot (ls : List (List POp)) (k : Nat) : Nat := ((ls.take k).map fun l => 2 * l.length).sum
theorem tot_succ {ls : List (List POp)} {k : Nat} {x : List POp} (h : ls[k]? = some x) : tot ls (k + 1) = tot ls k + 2 * x.length := by
  unfold tot
  rw [List.take_add_one, h]
  simp
theorem tot_all (ls : List (List POp)) : tot ls ls.length = left2 ls (List.replicate ls.length pt0) := by
  rw [left_new, tot, List.take_length]
theorem made8 {ls : List (List POp)} (h : MadeT ls) : ∀ l ∈ ls, l.length ≤ 8 := fun l hl => by have := (h.2 l hl).1; omega
def Cells5 (Y : World) (b : Nat) (mem : Nat → Int) (SA : Option Addr) (qn qc : Nat) : Prop := (Y.cell? ⟨b, 0, none⟩ = some (.int .i64 (mem 0)) ∧ Y.cell? ⟨b, 1, none⟩ = some (.int .i64 (mem 1)) ∧ Y.cell? ⟨b, 2, none⟩ = some (.int .i64 (mem 2)) ∧ Y.cell? ⟨b, 3, none⟩ = some (.int .i64 (mem 3)) ∧ Y.cell? ⟨b, 4, none⟩ = some (.slice SA qn qc))
def Free5 (Y : World) (b : Nat) : Prop := (Y.frozen? ⟨b, 0, none⟩ = false ∧ Y.frozen? ⟨b, 1, none⟩ = false ∧ Y.frozen? ⟨b, 2, none⟩ = false ∧ Y.frozen? ⟨b, 3, none⟩ = false ∧ Y.frozen? ⟨b, 4, none⟩ = false)
theorem StAt.five5 {Y : World} {b : Nat} {mem : Nat → Int} {SA : Option Addr} {qn qc : Nat} (h : StAt Y b mem SA qn qc) : Cells5 Y b mem SA qn qc := ⟨h.m (by decide), h.m (by decide), h.m (by decide), h.m (by decide), h.s⟩
theorem StAt.free5 {Y : World} {b : Nat} {mem : Nat → Int} {SA : Option Addr} {qn qc : Nat} (h : StAt Y b mem SA qn qc) : Free5 Y b := ⟨h.fr 0, h.fr 1, h.fr 2, h.fr 3, h.fr 4⟩
theorem ThA.thrown {w w' : World} {d b n : Nat} {A : Option Addr} {l : List Th} (h : ThA w b A n l) (h2 : ThA w d A n l) (ht : Thrown w d w') : ThA w' b A n l := h.put2 h2 ht.grown

theorem fin_new {y Z : World} {d n c : Nat} {A : Option Addr} {ts : List Tr} (mem : Nat → Int) (hO : Okay Z A n c ts) (hT : Thrown y d Z) :
    StAt (Z.alloc (.cells #[.int .i64 (mem 0), .int .i64 (mem 1), .int .i64 (mem 2), .int .i64 (mem 3), .slice A n c] 31)) Z.heap.size mem A n c ∧ Okay (Z.alloc (.cells #[.int .i64 (mem 0), .int .i64 (mem 1), .int .i64 (mem 2), .int .i64 (mem 3), .slice A n c] 31)) A n c ts ∧ Z.heap.size < (Z.alloc (.cells #[.int .i64 (mem 0), .int .i64 (mem 1), .int .i64 (mem 2), .int .i64 (mem 3), .slice A n c] 31)).heap.size ∧ Thrown y d (Z.alloc (.cells #[.int .i64 (mem 0), .int .i64 (mem 1), .int .i64 (mem 2), .int .i64 (mem 3), .slice A n c] 31)) :=
  ⟨StAt.new Z mem A n c, hO.up (by repeat (first | (with_reducible exact (Below.refl _ _)) | (with_reducible refine Below.drew ?_) | (with_reducible refine below_drewN ?_ _) | (with_reducible refine Below.setCell ?_ ?_ _; rotate_left; (first | omega | (simp <;> omega))) | (with_reducible refine Below.alloc ?_ ?_ _; rotate_left; (first | omega | (simp <;> omega))))), by simp, hT.up (by repeat (first | (with_reducible exact (Below.refl _ _)) | (with_reducible refine Below.drew ?_) | (with_reducible refine below_drewN ?_ _) | (with_reducible refine Below.setCell ?_ ?_ _; rotate_left; (first | omega | (simp <;> omega))) | (with_reducible refine Below.alloc ?_ ?_ _; rotate_left; (first | omega | (simp <;> omega)))))⟩
theorem fin_put {y Z : World} {d bv n c n0 c0 : Nat} {A A0 : Option Addr} {ts : List Tr} {mem0 : Nat → Int} (mem : Nat → Int) (hK : StAt Z bv mem0 A0 n0 c0) (hO : Okay Z A n c ts) (ho : Off A n ts bv) (hT : Thrown y d Z) (hd : d < y.heap.size) (hb : y.heap.size ≤ bv) (hl : bv < Z.heap.size) :
    StAt (((((Z.setCell ⟨bv, 0, none⟩ (.int .i64 (mem 0))).setCell ⟨bv, 1, none⟩ (.int .i64 (mem 1))).setCell ⟨bv, 2, none⟩ (.int .i64 (mem 2))).setCell ⟨bv, 3, none⟩ (.int .i64 (mem 3))).setCell ⟨bv, 4, none⟩ (.slice A n c)) bv mem A n c ∧ Okay (((((Z.setCell ⟨bv, 0, none⟩ (.int .i64 (mem 0))).setCell ⟨bv, 1, none⟩ (.int .i64 (mem 1))).setCell ⟨bv, 2, none⟩ (.int .i64 (mem 2))).setCell ⟨bv, 3, none⟩ (.int .i64 (mem 3))).setCell ⟨bv, 4, none⟩ (.slice A n c)) A n c ts ∧ bv < (((((Z.setCell ⟨bv, 0, none⟩ (.int .i64 (mem 0))).setCell ⟨bv, 1, none⟩ (.int .i64 (mem 1))).setCell ⟨bv, 2, none⟩ (.int .i64 (mem 2))).setCell ⟨bv, 3, none⟩ (.int .i64 (mem 3))).setCell ⟨bv, 4, none⟩ (.slice A n c)).heap.size ∧ Thrown y d (((((Z.setCell ⟨bv, 0, none⟩ (.int .i64 (mem 0))).setCell ⟨bv, 1, none⟩ (.int .i64 (mem 1))).setCell ⟨bv, 2, none⟩ (.int .i64 (mem 2))).setCell ⟨bv, 3, none⟩ (.int .i64 (mem 3))).setCell ⟨bv, 4, none⟩ (.slice A n c)) := by
  have g := grown_five Z bv (.int .i64 (mem 0)) (.int .i64 (mem 1)) (.int .i64 (mem 2)) (.int .i64 (mem 3)) (.slice A n c)
  exact ⟨hK.five mem A n c, hO.put ho g, Nat.lt_of_lt_of_le hl g.size, hT.app hd g (fun k e => by injection e with e; omega)⟩

set_option maxRecDepth 100000 in
set_option maxHeartbeats 40000000 in
theorem ends_any (S : Option Addr) (sn sc : Nat) (sl : List Int) (mo : Int) (w : World) (hs : Sl w w.heap.size 1 byteCells S sn sl) (hl : ∀ (i : Nat) (x : Int), sl[i]? = some x → 0 ≤ x ∧ x ≤ 255) (hnc : sn ≤ sc) (hn : sn ≤ 9223372036854775807) (hc : sc ≤ 9223372036854775807) (h2 : -9223372036854775808 ≤ mo ∧ mo ≤ 9223372036854775807) :
    Calls Try.prog 7 #[.slice S sn sc, .int .i64 mo] w fun e w' => e = .returned (.bool true) ∧ Below w.heap.size w w' := by
  have HS := Lib.hid hs
  have HL := Lib.hid hl
  have HMO := Lib.hid h2
  have HNC := Lib.hid hnc
  clear hs hl h2
  go_enter Try.func7, Try.ntmps7
  go_wp2_with fail
  refine (sane_any w).mono ?_
  rintro e w1 ⟨rfl, hb1⟩
  go_wp2_with fail
  refine (new_dice S sn sc sl w1 (HS.out.up hb1) HL.out HNC.out hn hc).mono ?_
  rintro e w2 ⟨d, rfl, hD, hd, hb2⟩
  have hbw2 : Below w.heap.size w w2 := hb1.trans (hb2.mono hb1.size)
  have hdl := hD.lt
  have hdw : w.heap.size ≤ d := by have := hb1.size; omega
  go_wp2_with fail
  refine (threads_any d w2 hD).mono ?_
  rintro e w3 ⟨A, n, c, l, rfl, hMk, hMT, hT⟩
  have hbw3 : Below w.heap.size w w3 := hbw2.trans (hT.below hdw hbw2.size)
  have hdl3 : d < w3.heap.size := hT.dice.lt
  have D3 := Lib.hid hT.dice
  have HTA := Lib.hid (hMk.out hdl)
  have HMT := Lib.hid hMT
  have hn3 : n ≤ 3 := by have := hMT.1.2; rw [List.length_map, hMk.len] at this; exact this
  have hn1 : 1 ≤ n := by have := hMT.1.1; rw [List.length_map, hMk.len] at this; exact this
  have HLN := Lib.hid hMk.len
  have HRO := Lib.hid hMk.rooms
  have HSM := Lib.hid hMk.small
  have HVAL := Lib.hid (show validT (l.map Th.s) = true from made_valid hMT)
  have H8 := Lib.hid (made8 hMT)
  have hn9 : n ≤ 9000000000000 := by omega
  clear hD hMk hMT hT
  go_wp2_with fail
  refine (mod_any mo 4 w3 (by decide) (by decide) HMO.out).mono ?_
  rintro e x2 ⟨m, hm4, hme, rfl, hx2⟩
  clear hme
  have HTD2 := Lib.hid (HTA.out.up hx2)
  have D2 := Lib.hid (D3.out.below hx2)
  have hbx2 : Below w.heap.size w x2 := hbw3.trans (hx2.mono hbw3.size)
  have hzx2 := hx2.size
  go_upto_region 7 with (first | (go_at_call 11; refine (new_ok A n c l x2 HTD2.out.t hn9 HSM.out HVAL.out).mono ?_; rintro e Y ⟨A1, c1, rfl, hok1, hbY, hl1⟩; have HOK1 := Lib.hid hok1; have HL1 := Lib.hid hl1; clear hok1 hl1; have KZ := Lib.hid (StAt.new Y (fun _ => 0) none 0 0)) | (with_reducible refine wpList_store_st rfl (.tmp 8) (.tmp 28) rfl (mem := mem0) (A := A1) (n := n) (c := c1) (by simp [Act.eval, Act.put]) (by simp [Act.eval, Act.put]) KZ.out ?_; intro W1 hst hgr; have HST := Lib.hid hst; have HGR := Lib.hid hgr; clear hst hgr))
  have hbv : Below Y.heap.size Y W1 := below_var HGR.out
  have hzv : Y.heap.size + 1 ≤ W1.heap.size := size_var HGR.out
  have hzY := hbY.size
  have hbwY : Below w.heap.size w Y := hbx2.trans (hbY.mono hbx2.size)
  have hbw1 : Below w.heap.size w W1 := hbwY.trans (hbv.mono hbwY.size)
  have hbx21 : Below x2.heap.size x2 W1 := hbY.trans (hbv.mono hbY.size)
  have HOK := Lib.hid (HOK1.out.up hbv)
  have HOF := Lib.hid (show Off A1 n (List.replicate n tr0) Y.heap.size ∧ Off A1 n (List.replicate n tr0) d from ⟨Off.of_new HL1.out (.inr (Nat.le_refl _)), Off.of_new HL1.out (.inl (by omega))⟩)
  have HTD3 := Lib.hid (HTD2.out.up hbx21)
  have HTB3 := Lib.hid (show ThA W1 Y.heap.size A n l from (ThA.new HTD2.out.t hzY).up hbx21)
  have D4 := Lib.hid (D2.out.below hbx21)
  have hdY : d < Y.heap.size := by omega
  obtain ⟨b, hb⟩ : ∃ b, b = Y.heap.size := ⟨_, rfl⟩
  rw [← hb] at HST HOF HTB3 hzv hdY ⊢
  clear HGR KZ HL1 HOK1 HTD2 hb D3 D2 HTA
  obtain ⟨TS, hTS⟩ : ∃ TS, TS = l.map Th.s := ⟨_, rfl⟩
  have HFS := Lib.hid hTS.symm
  have HMT2 := Lib.hid (show MadeT TS from by rw [hTS]; exact HMT.out)
  have H8' := Lib.hid (show ∀ q ∈ TS, q.length ≤ 8 from by rw [hTS]; exact H8.out)
  have hLT : TS.length = n := by rw [hTS, List.length_map, HLN.out]
  have HLT := Lib.hid hLT
  have HSW := Lib.hid (show ((List.replicate n tr0).map Tr.pt).length = TS.length from by rw [hLT]; simp)
  clear hTS hLT H8 HMT
  obtain ⟨ab, ao, rfl, hlo, hat⟩ := HTD3.out.t.sl.at_ (by omega)
  have HAT := Lib.hid hat
  clear hat
  have hm3I : (m : Int) ≤ 3 := by omega
  go_upto_region 11 with fail
  go_loopw [10, 34] (fun tv iv wr => ∃ (k T : Nat), k ≤ n ∧ tv = .int .i64 T ∧ iv = .int .i64 k ∧ Hid (T = tot TS k) ∧ T ≤ 8 * k ∧ Hid (wr = W1)) (fun _ iv _ => n - (intOf iv).toNat)
  case atStart => exact ⟨0, 0, by omega, rfl, rfl, Lib.hid rfl, by omega, Lib.hid (by trivial)⟩
  case round =>
    obtain ⟨k, T, hk, rfl, rfl, hT, hT8, hwr⟩ := hrel
    have hwr' := hwr.out.symm
    subst hwr'
    clear hwr
    by_cases hlt : k < n
    · have hltI : (k : Int) < (n : Int) := by omega
      obtain ⟨x, hx⟩ : ∃ x, l[k]? = some x := ⟨_, List.getElem?_eq_getElem (by rw [HLN.out]; exact hlt)⟩
      have c0 : W1.cell? ⟨ab, ao + k, none⟩ = some (.slice x.A x.n x.c) := by have := HAT.out k x hx 0 _ rfl; simpa using this
      have hxs : TS[k]? = some x.s := by rw [← HFS.out, List.getElem?_map, hx]; rfl
      have hxl : x.s.length = x.n := (HTD3.out.t.ths x (List.mem_of_getElem? hx)).len
      have hxn : x.n ≤ 4 := by have := (HMT2.out.2 x.s (List.mem_of_getElem? hxs)).1; omega
      have HXS := Lib.hid (show tot TS (k + 1) = T + 2 * x.n from by rw [tot_succ hxs, hT.out, hxl])
      clear hx hxs hxl
      go_wp2
      go_roundw
      case rel => exact ⟨k + 1, T + 2 * x.n, by omega, by go_num, by go_num, Lib.hid HXS.out.symm, by omega, Lib.hid (by trivial)⟩
      case measure => simp [intOf]; omega
    · have hltI : ¬ ((k : Int) < (n : Int)) := by omega
      obtain rfl : k = n := by omega
      have HL0 := Lib.hid (show left2 TS ((List.replicate k tr0).map Tr.pt) + 0 ≤ T from by rw [pts_new, hT.out]; have h := tot_all TS; rw [HLT.out] at h; omega)
      go_upto_region 16 with fail
      go_loopw [13] (fun kv wr => ∃ (q : Nat) (mem : Nat → Int) (SA : Option Addr) (qn qc : Nat) (ts : List Tr), kv = .int .i64 q ∧ Hid (StAt wr b mem SA qn qc) ∧ Hid (Okay wr SA qn qc ts) ∧ Hid (Off SA qn ts b ∧ Off SA qn ts d) ∧ Hid ((ts.map Tr.pt).length = TS.length) ∧ Hid (ThA wr d (some ⟨ab, ao, none⟩) k l) ∧ Hid (ThA wr b (some ⟨ab, ao, none⟩) k l) ∧ Hid (Dice wr d) ∧ Hid (left2 TS (ts.map Tr.pt) + q ≤ T) ∧ b + 1 ≤ wr.heap.size ∧ Below w.heap.size w wr) (fun kv _ => T - (intOf kv).toNat)
      case atStart => exact ⟨0, mem0, A1, k, c1, List.replicate k tr0, rfl, HST, HOK, HOF, HSW, HTD3, HTB3, D4, HL0, by omega, hbw1⟩
      case round =>
        obtain ⟨q, mem, SA, qn, qc, ts, rfl, hst, hok, hof, hsw, htd, htb, hdi, hleft, hzr', hbr'⟩ := hrel
        rename World => wq
        have HQ3 := hok.out.n3
        have HVQ := Lib.hid (show okB m TS (ts.map Tr.pt) = true from by
          have h1 := HVAL.out
          rw [HFS.out] at h1
          unfold okB
          rw [h1, decide_eq_true (show (0 : Int) ≤ m by omega), decide_eq_true (show (m : Int) ≤ 3 by omega), decide_eq_true hsw.out]; rfl)
        go_wp2_with (first | (with_reducible refine wpList_load_st rfl (.tmp 8) rfl (by simp [Act.eval, Act.put]) hst.out ?_))
        refine (ended_any _ k c l mem SA qn qc ts wq htd.out.t hn9 HRO.out hok.out.s hok.out.r (by omega) HSM.out).mono ?_
        rintro e y1 ⟨rfl, hy1⟩
        rw [HFS.out]
        have st1 := Lib.hid (hst.out.below hy1 (by omega))
        have ok1 := Lib.hid (hok.out.up hy1)
        have td1 := Lib.hid (htd.out.up hy1)
        have tb1 := Lib.hid (htb.out.up hy1)
        have di1 := Lib.hid (hdi.out.below hy1)
        have by1 : Below w.heap.size w y1 := hbr'.trans (hy1.mono hbr'.size)
        have zy1 := hy1.size
        cases hE : endedP TS (ts.map Tr.pt) with
        | true =>
          have HNM := Lib.hid (no_move (m := m) hE)
          clear hE
          go_wp2_with (first | (with_reducible refine wpList_load_st rfl (.tmp 8) rfl (by simp [Act.eval, Act.put]) st1.out ?_))
          refine (moves_any m _ k c l (mem 0) (mem 1) (mem 2) (mem 3) SA qn qc ts y1 td1.out.t hn9 HSM.out HRO.out ok1.out.s ok1.out.r (by omega)).mono ?_
          rintro e y2 ⟨A3, n3, c3, rfl, hn3', hnc3, hc3, hsl3, hy2, hlo3⟩
          rw [HFS.out, HNM.out] at hn3'
          obtain rfl : n3 = 0 := hn3'
          clear hsl3 hlo3
          go_wp2
          go_ret
          exact ⟨rfl, by1.trans (hy2.mono by1.size)⟩
        | false =>
          have hmv := has_move HVQ.out H8'.out hE
          have hpos := left_pos HVQ.out H8'.out hE
          have HMV := Lib.hid hmv
          have hqT : q < T := by have := hleft.out; omega
          have hqTI : (q : Int) < (T : Int) := by omega
          clear hE hmv hpos
          go_wp2_with (first | (with_reducible refine wpList_load_st rfl (.tmp 8) rfl (by simp [Act.eval, Act.put]) st1.out ?_))
          refine (moves_any m _ k c l (mem 0) (mem 1) (mem 2) (mem 3) SA qn qc ts y1 td1.out.t hn9 HSM.out HRO.out ok1.out.s ok1.out.r (by omega)).mono ?_
          rintro e y2 ⟨A3, n3, c3, rfl, hn3', hnc3, hc3, hsl3, hy2, hlo3⟩
          rw [HFS.out] at hn3' hsl3
          have st2 := Lib.hid (st1.out.below hy2 (by omega))
          have ok2 := Lib.hid (ok1.out.up hy2)
          have td2 := Lib.hid (td1.out.up hy2)
          have tb2 := Lib.hid (tb1.out.up hy2)
          have di2 := Lib.hid (di1.out.below hy2)
          have by2 : Below w.heap.size w y2 := by1.trans (hy2.mono by1.size)
          have zy2 := hy2.size
          have hn30 : 0 < n3 := by rw [hn3']; exact List.length_pos_iff.2 HMV.out
          have hn3b : n3 ≤ 4000 := by
            rw [hn3']
            unfold movesP
            split
            · have := mvs_len (m := m) (ths := TS) (ts := ts.map Tr.pt) H8'.out (fun y hy => by obtain ⟨x, hx, rfl⟩ := List.mem_map.1 hy; show x.q.length ≤ 1000; rw [(ok2.out.s.q x hx).len]; exact (ok2.out.r x hx).2.2) TS.length
              have h2 : TS.length ≤ 3 := by have := HLT.out; omega
              omega
            · simp
          have HN3 := Lib.hid hn3'
          have HSL3 := Lib.hid hsl3
          have hbl3 := Lib.hid hlo3
          clear hn3' hsl3 hlo3
          have hn30' : ((n3 : Int) == 0) = false := by simp; omega
          obtain ⟨mb, mo', rfl, hmlt, hmat⟩ := HSL3.out.at_ hn30
          have hmd : mb ≠ d := by have := hbl3.out hn30 _ rfl; have := hdi.out.lt; simp only at *; omega
          have KM := Lib.hid (show ∀ Y, Thrown y2 d Y → ∀ (i : Nat) (v : Mv), (movesP m TS (ts.map Tr.pt))[i]? = some v → Y.cell? ⟨mb, mo' + i * 3, none⟩ = some (.int .i64 v.thread) ∧ Y.cell? ⟨mb, mo' + i * 3 + 1, none⟩ = some (.int .i64 v.op) ∧ Y.cell? ⟨mb, mo' + i * 3 + 2, none⟩ = some (.int .i64 v.store) from fun Y hY i v hv =>
            ⟨(hY.cell hmlt hmd).trans (by have := hmat i v hv 0 _ rfl; simpa using this), (hY.cell hmlt hmd).trans (hmat i v hv 1 _ rfl), (hY.cell hmlt hmd).trans (hmat i v hv 2 _ rfl)⟩)
          clear hmat st1 ok1 td1 tb1 di1
          go_upto_region 21 with fail
          go_cut [15, 16] (fun yv fv wx => ∃ (bv : Nat) (A4 : Option Addr) (n4 c4 : Nat) (ts2 : List Tr) (v : Mv), yv = .pointer (some ⟨bv, 0, none⟩) ∧ fv = .int .i64 0 ∧ Hid (v ∈ movesP m TS (ts.map Tr.pt)) ∧ Hid (StAt wx bv (stepF m TS mem (ts.map Tr.pt) v).1 A4 n4 c4) ∧ Hid (Okay wx A4 n4 c4 ts2) ∧ Hid (ts2.map Tr.pt = (stepF m TS mem (ts.map Tr.pt) v).2) ∧ Hid (Off A4 n4 ts2 b ∧ Off A4 n4 ts2 d) ∧ y2.heap.size ≤ bv ∧ bv < wx.heap.size ∧ Hid (Thrown y2 d wx))
          case first =>
            obtain ⟨q0, q1, q2, q3, q4⟩ := st2.out.five5
            have hby2 : b < y2.heap.size := by omega
            go_region_law (first
              | (go_simp; go_at_call 16; refine (pick_any d n3 _ (di2.out.below (by repeat (first | (with_reducible exact (Below.refl _ _)) | (with_reducible refine Below.drew ?_) | (with_reducible refine below_drewN ?_ _) | (with_reducible refine Below.setCell ?_ ?_ _; rotate_left; (first | omega | (simp <;> omega))) | (with_reducible refine Below.alloc ?_ ?_ _; rotate_left; (first | omega | (simp <;> omega)))))) hn30 (by omega)).mono ?_; rintro e Y ⟨p, hp, rfl, ht, hz⟩; have hT : Thrown y2 d Y := (Thrown.of_below di2.out (by repeat (first | (with_reducible exact (Below.refl _ _)) | (with_reducible refine Below.drew ?_) | (with_reducible refine below_drewN ?_ _) | (with_reducible refine Below.setCell ?_ ?_ _; rotate_left; (first | omega | (simp <;> omega))) | (with_reducible refine Below.alloc ?_ ?_ _; rotate_left; (first | omega | (simp <;> omega)))))).trans ht; have HTY := Lib.hid hT; (first | (have KA := Lib.hid (show StAt Y y2.heap.size (fun _ => 0) none 0 0 from ((StAt.new y2 (fun _ => 0) none 0 0).below (Below.drew (Below.refl _ _)) (by simp)).grown ht.grown (by simp) (by intro e; injection e with e; omega)); have hza : y2.heap.size < Y.heap.size := (by have h := ht.size; simp at h; omega)) | (have KA := Lib.hid (show StAt Y y2.heap.size (fun _ => 0) none 0 0 from (StAt.new _ (fun _ => 0) none 0 0).grown ht.grown (by simp) (by intro e; injection e with e; omega)); have hza : y2.heap.size < Y.heap.size := (by have h := ht.size; simp at h; omega)) | skip); obtain ⟨v, hv⟩ : ∃ v, (movesP m TS (ts.map Tr.pt))[p]? = some v := ⟨_, List.getElem?_eq_getElem (by rw [← HN3.out]; exact hp)⟩; have HV := Lib.hid hv; obtain ⟨v0, v1, v2⟩ := KM.out Y hT p v hv; clear hv ht hT hz; have hpI : (p : Int) < (n3 : Int) := (by omega); have stY := Lib.hid (st2.out.grown HTY.out.grown (by omega) (by intro e; injection e with e; omega)); obtain ⟨q0', q1', q2', q3', q4'⟩ := stY.out.five5; have okY := Lib.hid (ok2.out.put hof.out.2 HTY.out.grown); have tdY := Lib.hid (td2.out.put HTY.out.grown); have hmY : mb < Y.heap.size := (by have := HTY.out.size; omega); have hbY : b < Y.heap.size := (by have := HTY.out.size; omega))
              | (go_simp; go_at_call 15; refine (do_ok m _ k c l mem SA qn qc ts v _ (tdY.out.up (by repeat (first | (with_reducible exact (Below.refl _ _)) | (with_reducible refine Below.drew ?_) | (with_reducible refine below_drewN ?_ _) | (with_reducible refine Below.setCell ?_ ?_ _; rotate_left; (first | omega | (simp <;> omega))) | (with_reducible refine Below.alloc ?_ ?_ _; rotate_left; (first | omega | (simp <;> omega)))))).t hn9 HSM.out HRO.out (okY.out.up (by repeat (first | (with_reducible exact (Below.refl _ _)) | (with_reducible refine Below.drew ?_) | (with_reducible refine below_drewN ?_ _) | (with_reducible refine Below.setCell ?_ ?_ _; rotate_left; (first | omega | (simp <;> omega))) | (with_reducible refine Below.alloc ?_ ?_ _; rotate_left; (first | omega | (simp <;> omega)))))) HVAL.out (by rw [HFS.out]; exact List.mem_of_getElem? HV.out)).mono ?_; rintro e Z ⟨A4, n4, c4, ts2, rfl, hok2, hpt2, hbZ0, hl1, hl2⟩; have hbZ : Below Y.heap.size Y Z := (show Below Y.heap.size Y _ from (by repeat (first | (with_reducible exact (Below.refl _ _)) | (with_reducible refine Below.drew ?_) | (with_reducible refine below_drewN ?_ _) | (with_reducible refine Below.setCell ?_ ?_ _; rotate_left; (first | omega | (simp <;> omega))) | (with_reducible refine Below.alloc ?_ ?_ _; rotate_left; (first | omega | (simp <;> omega)))))).trans (hbZ0.mono (by simp)); (first | (have KB := Lib.hid (KA.out.below hbZ hza); have HOB := Lib.hid (show Off A4 n4 ts2 y2.heap.size from Off.of_lows hl1 hl2 hza); have hbvZ : y2.heap.size < Z.heap.size := Nat.lt_of_lt_of_le hza hbZ.size) | (have KB := Lib.hid (show StAt Z Y.heap.size (fun _ => 0) none 0 0 from (StAt.new _ (fun _ => 0) none 0 0).below hbZ0 (by simp)); have HOB := Lib.hid (show Off A4 n4 ts2 Y.heap.size from Off.of_lows hl1 hl2 (by simp)); have hbvZ : Y.heap.size < Z.heap.size := (by have h := hbZ0.size; simp at h; omega)) | skip); (first | obtain ⟨z0, z1, z2, z3, z4⟩ := KB.out.five5 | skip); (first | obtain ⟨f0, f1, f2, f3, f4⟩ := KB.out.free5 | skip); rw [HFS.out] at hpt2 ⊢; have HOK2 := Lib.hid hok2; have HPT2 := Lib.hid hpt2; have HLA := Lib.hid (show ∀ ad, A4 = some ad → Y.heap.size ≤ ad.block from fun ad e => Nat.le_trans (by simp) (hl1 ad e)); have HLB := Lib.hid (show ∀ t ∈ ts2, ∀ ad, t.A = some ad → Y.heap.size ≤ ad.block from fun t ht ad e => Nat.le_trans (by simp) (hl2 t ht ad e)); clear hok2 hpt2 hl1 hl2; clear q0 q1 q2 q3 q4 q0' q1' q2' q3' q4'))
            all_goals
              go_wp2
              go_meet
              have zY := HTY.out.size
              have zZ := hbZ.size
              have OFF := Lib.hid (show Off A4 n4 ts2 b ∧ Off A4 n4 ts2 d from ⟨Off.of_lows HLA.out HLB.out (by omega), Off.of_lows HLA.out HLB.out (by omega)⟩)
              have hdy2 : d < y2.heap.size := by omega
              have hTZ := HTY.out.up hbZ
              have hyZ : y2.heap.size ≤ Z.heap.size := by omega
              have hyY : y2.heap.size ≤ Y.heap.size := by omega
              first
                | (obtain ⟨e1, e2, e3, e4⟩ := fin_put (stepF m TS mem (ts.map Tr.pt) v).1 KB.out HOK2.out HOB.out hTZ hdy2 (by first | exact Nat.le_refl _ | exact hyY) hbvZ; exact ⟨_, A4, n4, c4, ts2, v, rfl, rfl, Lib.hid (List.mem_of_getElem? HV.out), Lib.hid e1, Lib.hid e2, HPT2, OFF, (by first | exact Nat.le_refl _ | exact hyY), e3, Lib.hid e4⟩)
                | (obtain ⟨e1, e2, e3, e4⟩ := fin_new (stepF m TS mem (ts.map Tr.pt) v).1 HOK2.out hTZ; exact ⟨_, A4, n4, c4, ts2, v, rfl, rfl, Lib.hid (List.mem_of_getElem? HV.out), Lib.hid e1, Lib.hid e2, HPT2, OFF, hyZ, e3, Lib.hid e4⟩)
          rename World => y3
          obtain ⟨bv, A4, n4, c4, ts2, v, rfl, rfl, HV, HSV, HOK2, HPT2, HOF2, hge, hltv, HTH⟩ := hcut
          have zy3 := HTH.out.size
          have by3 : Below w.heap.size w y3 := by2.trans (HTH.out.below hdw by2.size)
          have st3 := Lib.hid (st2.out.grown HTH.out.grown (by omega) (by intro e; injection e with e; omega))
          have ok3 := Lib.hid (ok2.out.put hof.out.2 HTH.out.grown)
          have td3 := Lib.hid (td2.out.put HTH.out.grown)
          have tb3 := Lib.hid (tb2.out.put2 td2.out HTH.out.grown)
          have HNS := Lib.hid (not_same (mem := mem) H8'.out HV.out)
          obtain ⟨sf1, sf2⟩ := ends_facts (mem := mem) HV.out
          rw [← HPT2.out] at sf1 sf2
          have hsw2 := Lib.hid (show (ts2.map Tr.pt).length = TS.length from sf1.trans hsw.out)
          have hleft2 := Lib.hid (show left2 TS (ts2.map Tr.pt) + (q + 1) ≤ T from by have := hleft.out; omega)
          obtain ⟨q0, q1, q2, q3, q4⟩ := st3.out.five5
          obtain ⟨p0, p1, p2, p3, p4⟩ := HSV.out.five5
          clear sf1 sf2 st2 ok2 td2 tb2 di2
          go_wp2_with fail
          refine (same_any mem SA qn qc ts (stepF m TS mem (ts.map Tr.pt) v).1 A4 n4 c4 ts2 y3 ok3.out.s HOK2.out.s ok3.out.r (by omega)).mono ?_
          rintro e y4 ⟨rfl, hy4⟩
          rw [HPT2.out, HNS.out]
          clear q0 q1 q2 q3 q4 p0 p1 p2 p3 p4
          have st4 := Lib.hid (st3.out.below hy4 (by omega))
          have sv4 := Lib.hid (HSV.out.below hy4 hltv)
          have zy4 := hy4.size
          have by4 : Below w.heap.size w y4 := by3.trans (hy4.mono by3.size)
          go_wp2_with (first | (with_reducible refine wpList_load_st rfl (.tmp 15) rfl (by simp [Act.eval, Act.put]) sv4.out ?_) | (with_reducible refine wpList_store_st rfl (.tmp 8) (.tmp 83) rfl (mem := (stepF m TS mem (ts.map Tr.pt) v).1) (A := A4) (n := n4) (c := c4) (by simp [Act.eval, Act.put]) (by simp [Act.eval, Act.put]) st4.out ?_; intro W5 hst5 hgr5; have HST5 := Lib.hid hst5; have HGR5 := Lib.hid hgr5; clear hst5 hgr5))
          go_roundw
          case measure => simp [intOf]; omega
          case rel => exact ⟨q + 1, (stepF m TS mem (ts.map Tr.pt) v).1, A4, n4, c4, ts2, by go_num, HST5, Lib.hid ((HOK2.out.up hy4).put HOF2.out.1 HGR5.out), HOF2, hsw2, Lib.hid ((td3.out.up hy4).put2 (tb3.out.up hy4) HGR5.out), Lib.hid ((tb3.out.up hy4).put HGR5.out), Lib.hid ((HTH.out.dice.below hy4).grown HGR5.out (fun g hg => by injection hg with hg; omega)), hleft2, by have := HGR5.out.size; omega, by4.grown HGR5.out by4.size (fun g hg => by injection hg with hg; omega)⟩
end Go.Proofs.Ytnomghcieomjmaa
