/- Whether all is done. -/
import Derived.Test.YtnomghcieomjmaaO
import Derived.BigQuiet
namespace Go.Proofs.Ytnomghcieomjmaa
open Go.RowKit

set_option maxHeartbeats 1000000 in
theorem indexB_any (b n c : Nat) (d : Nat → Bool) (w : World) (hd : ∀ j, j < n → w.cell? ⟨b, j, none⟩ = some (.bool (d j))) (hb : b < w.heap.size) (hn : n ≤ 8) :
    Calls Try.prog 49 #[.slice (some ⟨b, 0, none⟩) n c, .bool false] w fun e w' => (((∃ k : Nat, e = .returned (.int .i64 k)) ∧ ∃ j, j < n ∧ d j = false) ∨ (e = .returned (.int .i64 (-1)) ∧ ∀ j, j < n → d j = true)) ∧ Below w.heap.size w w' := by
  have HD := Lib.hid hd
  clear hd
  go_enter Try.func49, Try.ntmps49
  go_wp2_with fail
  go_loopw [8] (fun i wr => ∃ k : Nat, k ≤ n ∧ i = .int .i64 k ∧ Hid (∀ j, j < k → d j = true) ∧ Below w.heap.size w wr) (fun i _ => n - (intOf i).toNat)
  case atStart => exact ⟨0, Nat.zero_le _, rfl, Lib.hid (fun j h => absurd h (by omega)), Below.refl _ _⟩
  case round =>
    obtain ⟨k, hk, rfl, hno, hbw⟩ := hrel
    by_cases hlt : k < n
    · have c0 := (belc hbw hb).trans (HD.out k hlt)
      have hltI : (k : Int) < (n : Int) := by omega
      cases hdk : d k with
      | true =>
        rw [hdk] at c0
        have HDK := Lib.hid hdk
        clear hdk
        go_wp2
        go_roundw
        case rel => exact ⟨k + 1, by omega, by go_num, Lib.hid (fun j hj => by
          by_cases hjk : j = k
          · subst hjk; exact HDK.out
          · exact hno.out j (by omega)), hbw⟩
        case measure => simp [intOf]; omega
      | false =>
        rw [hdk] at c0
        have HDK := Lib.hid hdk
        clear hdk
        go_wp2
        go_ret
        exact ⟨.inl ⟨⟨k, rfl⟩, k, hlt, HDK.out⟩, hbw⟩
    · obtain rfl : k = n := by omega
      go_wp2
      go_ret
      exact ⟨.inr ⟨rfl, hno.out⟩, hbw⟩
theorem containsB_any (b n c : Nat) (d : Nat → Bool) (w : World) (hd : ∀ j, j < n → w.cell? ⟨b, j, none⟩ = some (.bool (d j))) (hb : b < w.heap.size) (hn : n ≤ 8) :
    Calls Try.prog 31 #[.slice (some ⟨b, 0, none⟩) n c, .bool false] w fun e w' => e = .returned (.bool (!(List.range n).all d)) ∧ Below w.heap.size w w' := by
  go_enter Try.func31, Try.ntmps31
  go_wp2_with (go_at_call 49; refine (indexB_any b n c d w hd hb hn).mono ?_; rintro e Y ⟨⟨⟨k, rfl⟩, j, hj, hdj⟩ | ⟨rfl, hall⟩, hY⟩)
  · have hv : (List.range n).all d = false := List.all_eq_false.2 ⟨j, List.mem_range.2 hj, by simp [hdj]⟩
    go_wp2
    go_ret
    exact ⟨by rw [hv]; rfl, hY⟩
  · have hv : (List.range n).all d = true := List.all_eq_true.2 (fun j hj => hall j (List.mem_range.1 hj))
    go_wp2
    go_ret
    exact ⟨by rw [hv]; rfl, hY⟩

def endT (l : List POp) (t : Pt) : Bool := t.q.isEmpty && decide (l.length ≤ 8) && (List.range l.length).all t.done
def endedP (ths : List (List POp)) (ts : List Pt) : Bool := decide (ts.length = ths.length) && (List.range ths.length).all fun k => match ths[k]?, ts[k]? with
  | some l, some t => endT l t
  | _, _ => true
theorem ended_of {ths : List (List POp)} {ts : List Pt} (hl : ts.length = ths.length) (h : ∀ (k : Nat) (l : List POp) (t : Pt), ths[k]? = some l → ts[k]? = some t → endT l t = true) : endedP ths ts = true := by
  unfold endedP
  rw [decide_eq_true hl, Bool.true_and, List.all_eq_true]
  intro k _
  split
  · rename_i l t h1 h2
    exact h k l t h1 h2
  · rfl
theorem ended_not {ths : List (List POp)} {ts : List Pt} {k : Nat} {l : List POp} {t : Pt} (h1 : ths[k]? = some l) (h2 : ts[k]? = some t) (h : endT l t = false) : endedP ths ts = false := by
  unfold endedP
  rw [Bool.and_eq_false_iff]
  right
  rw [List.all_eq_false]
  refine ⟨k, List.mem_range.2 (List.getElem?_eq_some_iff.1 h1).1, ?_⟩
  rw [h1, h2]
  simp [h]

set_option maxRecDepth 100000 in
set_option maxHeartbeats 2000000 in
theorem ended_any (A : Option Addr) (n c : Nat) (l : List Th) (mem : Nat → Int) (SA : Option Addr) (sn sc : Nat) (ts : List Tr) (w : World)
    (hT : Ths w w.heap.size A n l) (hn : n ≤ 9000000000000) (_hro : Rooms l) (hS : Sts w w.heap.size SA sn ts) (hrs : Roomy ts) (hsn : sn ≤ 9000000000000) (hm : ∀ t ∈ l, t.n ≤ 9000000000000) :
    Calls Try.prog 12 #[.slice A n c, stVal mem SA sn sc] w fun e w' => e = .returned (.bool (endedP (l.map Th.s) (ts.map Tr.pt))) ∧ Below w.heap.size w w' := by
  have HT := Lib.hid hT
  have HS := Lib.hid hS
  have HLT := Lib.hid hT.sl.len
  have HLS := Lib.hid hS.sl.len
  have HRS := Lib.hid hrs
  have HM := Lib.hid hm
  clear hT hS _hro hrs hm
  obtain ⟨W0, hW0⟩ : ∃ W0, W0 = w.alloc (.cells #[.int .i64 (mem 0), .int .i64 (mem 1), .int .i64 (mem 2), .int .i64 (mem 3), .slice SA sn sc] 31) := ⟨_, rfl⟩
  have hb0 : Below w.heap.size w W0 := by rw [hW0]; exact (by repeat (first | (with_reducible exact (Below.refl _ _)) | (with_reducible refine Below.drew ?_) | (with_reducible refine below_drewN ?_ _) | (with_reducible refine Below.setCell ?_ ?_ _; rotate_left; (first | omega | (simp <;> omega))) | (with_reducible refine Below.alloc ?_ ?_ _; rotate_left; (first | omega | (simp <;> omega)))))
  have hz0 : w.heap.size + 1 ≤ W0.heap.size := by rw [hW0]; simp
  have K1 := Lib.hid (show StAt W0 w.heap.size mem SA sn sc from by rw [hW0]; exact StAt.new w mem SA sn sc)
  have s4 := K1.out.s
  go_enter Try.func12, Try.ntmps12
  go_upto_region 1 with fail
  rw [← hW0]
  have HW0 := Lib.hid hW0
  clear hW0
  by_cases hne : sn = n
  · subst hne
    go_wp2_with fail
    clear s4
    go_loopw [16] (fun s wr => ∃ k : Nat, k ≤ sn ∧ s = .int .i64 k ∧ Hid (∀ (j : Nat) (x : Th) (t : Tr), j < k → l[j]? = some x → ts[j]? = some t → endT x.s t.pt = true) ∧ Below W0.heap.size W0 wr) (fun s _ => sn - (intOf s).toNat)
    case atStart => exact ⟨0, Nat.zero_le _, rfl, Lib.hid (fun j x t h => absurd h (by omega)), Below.refl _ _⟩
    case round =>
      obtain ⟨k, hk, rfl, hok, hb⟩ := hrel
      have hbw : Below w.heap.size w wr := hb0.trans (hb.mono hb0.size)
      by_cases hlt : k < sn
      · obtain ⟨ab, ao, rfl, halt, hat⟩ := HT.out.sl.at_ (by omega)
        obtain ⟨sb, so, rfl, hslt, hsat⟩ := HS.out.sl.at_ (by omega)
        obtain ⟨x, hx⟩ : ∃ x, l[k]? = some x := ⟨_, List.getElem?_eq_getElem (by rw [HLT.out]; exact hlt)⟩
        obtain ⟨t, ht⟩ : ∃ t, ts[k]? = some t := ⟨_, List.getElem?_eq_getElem (by rw [HLS.out]; exact hlt)⟩
        have a0 : wr.cell? ⟨ab, ao + k, none⟩ = some (.slice x.A x.n x.c) := (belc hbw halt).trans (by have := hat k x hx 0 _ rfl; simpa using this)
        have b4 : wr.cell? ⟨w.heap.size, 4, none⟩ = some (.slice (some ⟨sb, so, none⟩) sn sc) := (belc hb (by omega)).trans K1.out.s
        have HTR := Lib.hid (show TrAt wr sb (so + k * 17) t from fun j u hu => (belc hbw hslt).trans (by rw [Nat.add_assoc]; exact hsat k t ht j u hu))
        have hltI : (k : Int) < (sn : Int) := by omega
        have HXL := Lib.hid (HT.out.ths x (List.mem_of_getElem? hx)).len
        have HTL := Lib.hid (HS.out.q t (List.mem_of_getElem? ht)).len
        have hxm := HM.out x (List.mem_of_getElem? hx)
        have htr := HRS.out t (List.mem_of_getElem? ht)
        have HX := Lib.hid hx
        have HTT := Lib.hid ht
        clear hx ht hat hsat
        obtain ⟨X, hX⟩ : ∃ X, X = wr.alloc (.cells t.cells.toArray 47) := ⟨_, rfl⟩
        have hbX : Below wr.heap.size wr X := by rw [hX]; exact (by repeat (first | (with_reducible exact (Below.refl _ _)) | (with_reducible refine Below.drew ?_) | (with_reducible refine below_drewN ?_ _) | (with_reducible refine Below.setCell ?_ ?_ _; rotate_left; (first | omega | (simp <;> omega))) | (with_reducible refine Below.alloc ?_ ?_ _; rotate_left; (first | omega | (simp <;> omega)))))
        have hzX : wr.heap.size + 1 ≤ X.heap.size := by rw [hX]; simp
        have HTX := Lib.hid (show TrAt X wr.heap.size 0 t from fun j u hu => by rw [hX, cell_new _ _ _ _ _ rfl, Nat.zero_add]; simpa using hu)
        have hbWX : Below W0.heap.size W0 X := hb.trans (hbX.mono hb.size)
        have hbwX : Below w.heap.size w X := hbw.trans (hbX.mono hbw.size)
        go_upto_region 7 with (first | (with_reducible refine wpList_load_tr rfl (.tmp 24) rfl (by simp [Act.eval]) HTR.out ?_) | (with_reducible refine wpList_store_new rfl (.tmp 7) (.tmp 25) rfl t rfl (by simp [Act.eval]) (by simp [Act.eval]) ?_))
        rw [← hX]
        have HX2 := Lib.hid hX
        clear hX a0 b4 hbX
        have q16 : X.cell? ⟨wr.heap.size, 16, none⟩ = some (.slice t.A t.n t.c) := by have := HTX.out 16 _ rfl; simpa using this
        have hnot := Lib.hid (show endT x.s t.pt = false → endedP (l.map Th.s) (ts.map Tr.pt) = false from fun h => ended_not (k := k) (l := x.s) (t := t.pt) (by rw [List.getElem?_map, HX.out]; rfl) (by rw [List.getElem?_map, HTT.out]; rfl) h)
        by_cases hq0 : 0 < t.n
        · have hv := hnot.out (by
            have : t.q ≠ [] := fun e => by have := HTL.out; rw [e] at this; simp at this; omega
            unfold endT
            show (t.q.isEmpty && _ && _) = false
            rw [show t.q.isEmpty = false from by cases hq : t.q with
              | nil => exact absurd hq this
              | cons _ _ => rfl]
            rfl)
          have HV := Lib.hid hv
          clear hv
          go_wp2
          go_ret
          exact ⟨by rw [HV.out]; rfl, hbwX⟩
        · have hq0' : t.n = 0 := by omega
          rw [hq0'] at q16
          have hqe := Lib.hid (show t.q = [] from List.eq_nil_of_length_eq_zero (by rw [HTL.out]; exact hq0'))
          by_cases hx8 : 8 < x.n
          · have hv := hnot.out (by
              unfold endT
              rw [decide_eq_false (by rw [HXL.out]; omega)]; simp)
            have HV := Lib.hid hv
            clear hv
            have hx8I : (8 : Int) < (x.n : Int) := by omega
            go_wp2
            go_ret
            exact ⟨by rw [HV.out]; rfl, hbwX⟩
          · have hx8I : ¬ (8 : Int) < (x.n : Int) := by omega
            have hx8J : (x.n : Int) ≤ 8 := by omega
            have hx8N : x.n ≤ 8 := by omega
            have hcells := Lib.hid (show ∀ j, j < x.n → X.cell? ⟨wr.heap.size, j, none⟩ = some (.bool (t.done j)) from fun j hj => by have := HTX.out j _ (tr_at t (show j < 8 by omega)); simpa using this)
            cases hall : (List.range x.n).all t.done with
            | true =>
              have HALL := Lib.hid hall
              clear hall
              go_wp2_with (go_at_call 31; refine (containsB_any wr.heap.size x.n 8 t.done X hcells.out (by omega) hx8N).mono ?_; rintro e Y ⟨rfl, hY⟩; rw [HALL.out])
              go_roundw
              case rel => exact ⟨k + 1, by omega, by go_num, Lib.hid (fun j x' t' hj hx' ht' => by
                by_cases hjk : j = k
                · subst hjk
                  rw [HX.out] at hx'
                  rw [HTT.out] at ht'
                  injection hx' with hx'
                  injection ht' with ht'
                  subst hx' ht'
                  unfold endT
                  rw [HXL.out, decide_eq_true hx8N]
                  show (t.q.isEmpty && true && (List.range x.n).all t.done) = true
                  rw [HALL.out, hqe.out]; rfl
                · exact hok.out j x' t' (by omega) hx' ht'), hbWX.trans (hY.mono hbWX.size)⟩
              case measure => simp [intOf]; omega
            | false =>
              have HALL := Lib.hid hall
              clear hall
              have hv := hnot.out (by
                unfold endT
                rw [HXL.out]
                show (_ && _ && (List.range x.n).all t.done) = false
                rw [HALL.out]; simp)
              have HV := Lib.hid hv
              clear hv
              go_wp2_with (go_at_call 31; refine (containsB_any wr.heap.size x.n 8 t.done X hcells.out (by omega) hx8N).mono ?_; rintro e Y ⟨rfl, hY⟩; rw [HALL.out])
              go_ret
              exact ⟨by rw [HV.out]; rfl, hbwX.trans (hY.mono hbwX.size)⟩
      · obtain rfl : k = sn := by omega
        have hv := Lib.hid (show endedP (l.map Th.s) (ts.map Tr.pt) = true from ended_of (by rw [List.length_map, List.length_map, HLT.out, HLS.out]) (fun j y p hy hp => by
          rw [List.getElem?_map] at hy hp
          obtain ⟨x, hx, rfl⟩ := Option.map_eq_some_iff.1 hy
          obtain ⟨t, ht, rfl⟩ := Option.map_eq_some_iff.1 hp
          exact hok.out j x t (by have := (List.getElem?_eq_some_iff.1 hx).1; have := HLT.out; omega) hx ht))
        go_wp2
        go_ret
        exact ⟨by rw [hv.out]; rfl, hbw⟩
  · have hne' : ((sn : Int) == (n : Int)) = false := by simp; omega
    have hv := Lib.hid (show endedP (l.map Th.s) (ts.map Tr.pt) = false from by unfold endedP; rw [decide_eq_false (by rw [List.length_map, List.length_map, HLT.out, HLS.out]; exact hne)]; rfl)
    go_wp2
    go_ret
    exact ⟨by rw [hv.out]; rfl, hb0⟩
end Go.Proofs.Ytnomghcieomjmaa
