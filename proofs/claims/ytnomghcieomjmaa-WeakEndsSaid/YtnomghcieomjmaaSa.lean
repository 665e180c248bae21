/- Two states are the same: Equal at waiting stores, EqualFunc at threads, Same. -/
import Derived.Test.YtnomghcieomjmaaAr
import Derived.Test.YtnomghcieomjmaaL
import Derived.BigQuiet
namespace Go.Proofs.Ytnomghcieomjmaa
open Go.RowKit

theorem neWt (x y : Wt) (w : World) : (binOp .neq 72 (.agg #[.int .i64 x.word, .int .i64 x.n]) (.agg #[.int .i64 y.word, .int .i64 y.n])).run Try.prog w = .ok (.bool (!decide (x = y))) w := by
  have u3 := Try.underlying3
  have a3 := Try.isAgg3
  have z3 := Try.sizeOf3
  have hS : Try.prog.underlying 72 = some (.struct (Try.prog.fieldsOf 72)) := by kernel_rfl
  have hp : Try.prog.stoodInHeld 72 = false := by kernel_rfl
  rw [run_neq_struct, show (10000 : Nat) = 9999 + 1 from rfl, run_equalIn_agg w 9999 72 _ _ hS hp]
  simp only [Program.fieldsOf, Try.underlying72]
  go_simp
  obtain ⟨x1, x2⟩ := x
  obtain ⟨y1, y2⟩ := y
  by_cases h1 : x1 = y1 <;> by_cases h2 : x2 = y2 <;> simp [h1, h2]
theorem gdWt : GuardAt Try.prog 72 (fun x : Wt => .agg #[.int .i64 x.word, .int .i64 x.n]) := GuardAt.agg _ (by kernel_rfl)

set_option maxHeartbeats 2000000 in
theorem equalWt_any (A : Option Addr) (n c : Nat) (l : List Wt) (A' : Option Addr) (n' c' : Nat) (l' : List Wt) (w : World) (hs : Sl w w.heap.size 2 Wt.cells A n l) (hs' : Sl w w.heap.size 2 Wt.cells A' n' l') (hn : n ≤ 9000000000000) :
    Calls Try.prog 47 #[.slice A n c, .slice A' n' c'] w fun e w' => e = .returned (.bool (decide (l = l'))) ∧ Below w.heap.size w w' := by
  have HS := Lib.hid hs
  have HS' := Lib.hid hs'
  have HL := Lib.hid hs.len
  have HL' := Lib.hid hs'.len
  clear hs hs'
  go_enter Try.func47, Try.ntmps47
  by_cases hnn : n = n'
  · subst hnn
    go_wp2_with fail
    go_loopw [13] (fun i wr => ∃ k : Nat, k ≤ n ∧ i = .int .i64 k ∧ Hid (∀ (i : Nat) (x y : Wt), i < k → l[i]? = some x → l'[i]? = some y → x = y) ∧ Below w.heap.size w wr) (fun i _ => n - (intOf i).toNat)
    case atStart => exact ⟨0, Nat.zero_le _, rfl, Lib.hid (fun i x y h => absurd h (by omega)), Below.refl _ _⟩
    case round =>
      obtain ⟨k, hk, rfl, hno, hb⟩ := hrel
      by_cases hlt : k < n
      · obtain ⟨ab, ao, rfl, hlo, hat⟩ := HS.out.at_ (by omega)
        obtain ⟨bb, bo, rfl, hlo', hat'⟩ := HS'.out.at_ (by omega)
        obtain ⟨x, hx⟩ : ∃ x, l[k]? = some x := ⟨_, List.getElem?_eq_getElem (by rw [HL.out]; exact hlt)⟩
        obtain ⟨y, hy⟩ : ∃ y, l'[k]? = some y := ⟨_, List.getElem?_eq_getElem (by rw [HL'.out]; exact hlt)⟩
        have c0 : wr.cell? ⟨ab, ao + k * 2, none⟩ = some (.int .i64 x.word) := (belc hb hlo).trans (hat k x hx 0 _ rfl)
        have c1 : wr.cell? ⟨ab, ao + k * 2 + 1, none⟩ = some (.int .i64 x.n) := (belc hb hlo).trans (hat k x hx 1 _ rfl)
        have d0 : wr.cell? ⟨bb, bo + k * 2, none⟩ = some (.int .i64 y.word) := (belc hb hlo').trans (hat' k y hy 0 _ rfl)
        have d1 : wr.cell? ⟨bb, bo + k * 2 + 1, none⟩ = some (.int .i64 y.n) := (belc hb hlo').trans (hat' k y hy 1 _ rfl)
        have hltI : (k : Int) < (n : Int) := by omega
        have HX := Lib.hid hx
        have HY := Lib.hid hy
        clear hat hx hat' hy
        have heq := fun w => neWt x y w
        have hgd := fun op a b w => gdWt op a b x y w
        by_cases hxy : x = y
        · simp only [decide_eq_true hxy, Bool.not_true] at heq
          go_upto_region 6 with fail
          go_quiet (fail)
          go_wp2
          go_roundw
          case rel => exact ⟨k + 1, by omega, by go_num, Lib.hid (fun i u v hi hu hv => by
            by_cases hik : i = k
            · subst hik
              rw [HX.out] at hu; rw [HY.out] at hv
              injection hu with hu; injection hv with hv
              rw [← hu, ← hv]; exact hxy
            · exact hno.out i u v (by omega) hu hv), below_drewN hb _⟩
          case measure => simp [intOf]; omega
        · simp only [decide_eq_false hxy, Bool.not_false] at heq
          go_upto_region 6 with fail
          go_quiet (fail)
          go_wp2
          go_ret
          have hf : decide (l = l') = false := decide_eq_false (fun e => by
            subst e
            have h1 := HX.out; rw [HY.out] at h1; injection h1 with h1; exact hxy h1.symm)
          exact ⟨by rw [hf]; rfl, below_drewN hb _⟩
      · obtain rfl : k = n := by omega
        go_wp2
        go_ret
        have ht : decide (l = l') = true := decide_eq_true (List.ext_getElem? fun i => by
          by_cases hi : i < k
          · obtain ⟨a, h1⟩ : ∃ a, l[i]? = some a := ⟨_, List.getElem?_eq_getElem (by rw [HL.out]; exact hi)⟩
            obtain ⟨b, h2⟩ : ∃ b, l'[i]? = some b := ⟨_, List.getElem?_eq_getElem (by rw [HL'.out]; exact hi)⟩
            rw [h1, h2, hno.out i _ _ hi h1 h2]
          · rw [List.getElem?_eq_none (by rw [HL.out]; omega), List.getElem?_eq_none (by rw [HL'.out]; omega)])
        exact ⟨by rw [ht]; rfl, hb⟩
  · have hne : ((n : Int) != (n' : Int)) = true := by simp; omega
    have hf : decide (l = l') = false := decide_eq_false (fun e => by
      subst e; exact hnn (HL.out.symm.trans HL'.out))
    have HF := Lib.hid hf
    clear hf
    go_wp2
    go_ret
    exact ⟨by rw [HF.out]; rfl, Below.refl _ _⟩

def samePt (t u : Pt) : Bool := same8 t.done u.done && (same8 t.regs u.regs && decide (t.q = u.q))
def sameTs : List Pt → List Pt → Bool
  | [], [] => true
  | t :: ts, u :: us => samePt t u && sameTs ts us
  | _, _ => false
def sameSt (mem : Nat → Int) (ts : List Pt) (mem' : Nat → Int) (ts' : List Pt) : Bool := same4 mem mem' && sameTs ts ts'
theorem sameTs_len : ∀ {ts us : List Pt}, sameTs ts us = true → ts.length = us.length
  | [], [], _ => rfl
  | _ :: _, _ :: _, h => by
    unfold sameTs at h
    rw [Bool.and_eq_true] at h
    rw [List.length_cons, List.length_cons, sameTs_len h.2]
  | [], _ :: _, h => by cases h
  | _ :: _, [], h => by cases h
theorem sameTs_all : ∀ {ts us : List Pt}, ts.length = us.length → (∀ (i : Nat) (t u : Pt), ts[i]? = some t → us[i]? = some u → samePt t u = true) → sameTs ts us = true
  | [], [], _, _ => rfl
  | t :: ts, u :: us, hl, h => by
    unfold sameTs
    rw [h 0 t u rfl rfl, sameTs_all (by simpa using hl) (fun i a b ha hb => h (i + 1) a b (by simpa using ha) (by simpa using hb))]; rfl
  | [], _ :: _, h, _ => by cases h
  | _ :: _, [], h, _ => by cases h
theorem sameTs_at : ∀ {ts us : List Pt} {i : Nat} {t u : Pt}, sameTs ts us = true → ts[i]? = some t → us[i]? = some u → samePt t u = true
  | [], _, i, t, u, _, ht, _ => by simp at ht
  | _ :: _, [], i, t, u, h, _, _ => by cases h
  | a :: ts, b :: us, 0, t, u, h, ht, hu => by
    unfold sameTs at h
    rw [Bool.and_eq_true] at h
    simp at ht hu; subst ht hu
    exact h.1
  | a :: ts, b :: us, i + 1, t, u, h, ht, hu => by
    unfold sameTs at h
    rw [Bool.and_eq_true] at h
    exact sameTs_at h.2 (by simpa using ht) (by simpa using hu)
theorem samePt_refl (t : Pt) : samePt t t = true := by simp [samePt, same8_refl]
theorem sameTs_refl (ts : List Pt) : sameTs ts ts = true := sameTs_all rfl (fun i t u ht hu => by rw [ht] at hu; injection hu with hu; subst hu; exact samePt_refl t)

set_option maxRecDepth 100000 in
set_option maxHeartbeats 4000000 in
theorem samePt_any (t u : Tr) (w : World) (ht : Sl w w.heap.size 2 Wt.cells t.A t.n t.q) (hu : Sl w w.heap.size 2 Wt.cells u.A u.n u.q) (hn : t.n ≤ 1000) :
    Calls Try.prog 46 #[.agg t.cells.toArray, .agg u.cells.toArray] w fun e w' => e = .returned (.bool (samePt t.pt u.pt)) ∧ Below w.heap.size w w' := by
  obtain ⟨W0, hW0⟩ : ∃ W0, W0 = (w.alloc (.cells t.cells.toArray 47)).alloc (.cells u.cells.toArray 47) := ⟨_, rfl⟩
  have hb0 : Below w.heap.size w W0 := by rw [hW0]; exact (by repeat (first | (with_reducible exact (Below.refl _ _)) | (with_reducible refine Below.drew ?_) | (with_reducible refine below_drewN ?_ _) | (with_reducible refine Below.setCell ?_ ?_ _; rotate_left; (first | omega | (simp <;> omega))) | (with_reducible refine Below.alloc ?_ ?_ _; rotate_left; (first | omega | (simp <;> omega)))))
  have hz0 : w.heap.size + 2 ≤ W0.heap.size := by rw [hW0]; simp
  have hT := Lib.hid (ht.up hb0)
  have hU := Lib.hid (hu.up hb0)
  have ct : ∀ q, W0.cell? ⟨w.heap.size, q, none⟩ = t.cells[q]? := fun q => by rw [hW0, belc (show Below (w.alloc (.cells t.cells.toArray 47)).heap.size (w.alloc (.cells t.cells.toArray 47)) _ from (by repeat (first | (with_reducible exact (Below.refl _ _)) | (with_reducible refine Below.drew ?_) | (with_reducible refine below_drewN ?_ _) | (with_reducible refine Below.setCell ?_ ?_ _; rotate_left; (first | omega | (simp <;> omega))) | (with_reducible refine Below.alloc ?_ ?_ _; rotate_left; (first | omega | (simp <;> omega)))))) (by simp), cell_new _ _ _ _ _ rfl]; simp
  have cu : ∀ q, W0.cell? ⟨w.heap.size + 1, q, none⟩ = u.cells[q]? := fun q => by rw [hW0, show w.heap.size + 1 = (w.alloc (.cells t.cells.toArray 47)).heap.size from by simp, cell_new _ _ _ _ _ rfl]; simp
  have t0 := (ct 0).trans (tr_at t (q := 0) (by decide))
  have u0 := (cu 0).trans (tr_at u (q := 0) (by decide))
  have t1 := (ct 1).trans (tr_at t (q := 1) (by decide))
  have u1 := (cu 1).trans (tr_at u (q := 1) (by decide))
  have t2 := (ct 2).trans (tr_at t (q := 2) (by decide))
  have u2 := (cu 2).trans (tr_at u (q := 2) (by decide))
  have t3 := (ct 3).trans (tr_at t (q := 3) (by decide))
  have u3 := (cu 3).trans (tr_at u (q := 3) (by decide))
  have t4 := (ct 4).trans (tr_at t (q := 4) (by decide))
  have u4 := (cu 4).trans (tr_at u (q := 4) (by decide))
  have t5 := (ct 5).trans (tr_at t (q := 5) (by decide))
  have u5 := (cu 5).trans (tr_at u (q := 5) (by decide))
  have t6 := (ct 6).trans (tr_at t (q := 6) (by decide))
  have u6 := (cu 6).trans (tr_at u (q := 6) (by decide))
  have t7 := (ct 7).trans (tr_at t (q := 7) (by decide))
  have u7 := (cu 7).trans (tr_at u (q := 7) (by decide))
  have t8 := (ct 8).trans (tr_reg t (q := 0) (by decide))
  have u8 := (cu 8).trans (tr_reg u (q := 0) (by decide))
  have t9 := (ct 9).trans (tr_reg t (q := 1) (by decide))
  have u9 := (cu 9).trans (tr_reg u (q := 1) (by decide))
  have t10 := (ct 10).trans (tr_reg t (q := 2) (by decide))
  have u10 := (cu 10).trans (tr_reg u (q := 2) (by decide))
  have t11 := (ct 11).trans (tr_reg t (q := 3) (by decide))
  have u11 := (cu 11).trans (tr_reg u (q := 3) (by decide))
  have t12 := (ct 12).trans (tr_reg t (q := 4) (by decide))
  have u12 := (cu 12).trans (tr_reg u (q := 4) (by decide))
  have t13 := (ct 13).trans (tr_reg t (q := 5) (by decide))
  have u13 := (cu 13).trans (tr_reg u (q := 5) (by decide))
  have t14 := (ct 14).trans (tr_reg t (q := 6) (by decide))
  have u14 := (cu 14).trans (tr_reg u (q := 6) (by decide))
  have t15 := (ct 15).trans (tr_reg t (q := 7) (by decide))
  have u15 := (cu 15).trans (tr_reg u (q := 7) (by decide))
  have t16 := (ct 16).trans (tr_q t)
  have u16 := (cu 16).trans (tr_q u)
  clear ct cu ht hu
  go_enter Try.func46, Try.ntmps46
  go_upto_region 1 with fail
  rw [← hW0]
  have HW0 := Lib.hid hW0
  clear hW0
  have heq := fun w => eqDone.1 t.done u.done w
  have hgd := fun op a b w => eqDone.2 op a b t.done u.done w
  have heq2 := fun w => eqRegs.1 t.regs u.regs w
  have hgd2 := fun op a b w => eqRegs.2 op a b t.regs u.regs w
  unfold doneVal at heq hgd
  unfold regVal at heq2 hgd2
  cases h1 : same8 t.done u.done with
  | false =>
    have hf := Lib.hid (show samePt t.pt u.pt = false from by simp [samePt, Tr.pt, h1])
    rw [h1] at heq
    go_wp2
    go_ret
    exact ⟨by rw [hf.out]; rfl, hb0⟩
  | true =>
    rw [h1] at heq
    cases h2 : same8 t.regs u.regs with
    | false =>
      have hf := Lib.hid (show samePt t.pt u.pt = false from by simp [samePt, Tr.pt, h1, h2])
      rw [h2] at heq2
      go_wp2
      go_ret
      exact ⟨by rw [hf.out]; rfl, hb0⟩
    | true =>
      have hf := Lib.hid (show samePt t.pt u.pt = decide (t.q = u.q) from by show (same8 t.done u.done && (same8 t.regs u.regs && decide (t.q = u.q))) = _; rw [h1, h2]; rfl)
      rw [h2] at heq2
      go_wp2_with fail
      refine (equalWt_any t.A t.n t.c t.q u.A u.n u.c u.q W0 hT.out hU.out (by omega)).mono ?_
      rintro e w1 ⟨rfl, hb1⟩
      rw [← hf.out]
      go_wp2
      go_ret
      exact ⟨rfl, hb0.trans (hb1.mono hb0.size)⟩

theorem TrAt.new (w : World) (t : Tr) : TrAt (w.alloc (.cells t.cells.toArray 47)) w.heap.size 0 t := fun i u hu => by
  rw [Nat.zero_add, cell_new _ _ _ _ _ rfl]; simpa using hu
set_option maxRecDepth 100000 in
set_option maxHeartbeats 4000000 in
theorem equalFn_any (A : Option Addr) (n c : Nat) (ts : List Tr) (A' : Option Addr) (n' c' : Nat) (us : List Tr) (w : World) (hs : Sts w w.heap.size A n ts) (hs' : Sts w w.heap.size A' n' us) (hr : Roomy ts) (hn : n ≤ 9000000000000) :
    Calls Try.prog 45 #[.slice A n c, .slice A' n' c', .func (.func 46) #[] #[]] w fun e w' => e = .returned (.bool (sameTs (ts.map Tr.pt) (us.map Tr.pt))) ∧ Below w.heap.size w w' := by
  have HS := Lib.hid hs
  have HS' := Lib.hid hs'
  have HL := Lib.hid hs.sl.len
  have HL' := Lib.hid hs'.sl.len
  have HR := Lib.hid hr
  clear hs hs' hr
  go_enter Try.func45, Try.ntmps45
  by_cases hnn : n = n'
  · subst hnn
    go_upto_region 4 with fail
    go_loopw [17] (fun i wr => ∃ k : Nat, k ≤ n ∧ i = .int .i64 k ∧ Hid (∀ (i : Nat) (x y : Tr), i < k → ts[i]? = some x → us[i]? = some y → samePt x.pt y.pt = true) ∧ Below w.heap.size w wr) (fun i _ => n - (intOf i).toNat)
    case atStart => exact ⟨0, Nat.zero_le _, rfl, Lib.hid (fun i x y h => absurd h (by omega)), Below.refl _ _⟩
    case round =>
      obtain ⟨k, hk, rfl, hno, hb⟩ := hrel
      by_cases hlt : k < n
      · obtain ⟨ab, ao, rfl, hlo, hat⟩ := HS.out.sl.at_ (by omega)
        obtain ⟨bb, bo, rfl, hlo', hat'⟩ := HS'.out.sl.at_ (by omega)
        obtain ⟨x, hx⟩ : ∃ x, ts[k]? = some x := ⟨_, List.getElem?_eq_getElem (by rw [HL.out]; exact hlt)⟩
        obtain ⟨y, hy⟩ : ∃ y, us[k]? = some y := ⟨_, List.getElem?_eq_getElem (by rw [HL'.out]; exact hlt)⟩
        have HTR := Lib.hid (show TrAt wr ab (ao + k * 17) x from fun i u hu => (belc hb hlo).trans (by rw [Nat.add_assoc]; exact hat k x hx i u hu))
        have hltI : (k : Int) < (n : Int) := by omega
        obtain ⟨X, hX⟩ : ∃ X, X = wr.alloc (.cells x.cells.toArray 47) := ⟨_, rfl⟩
        have hbX : Below wr.heap.size wr X := by rw [hX]; exact (by repeat (first | (with_reducible exact (Below.refl _ _)) | (with_reducible refine Below.drew ?_) | (with_reducible refine below_drewN ?_ _) | (with_reducible refine Below.setCell ?_ ?_ _; rotate_left; (first | omega | (simp <;> omega))) | (with_reducible refine Below.alloc ?_ ?_ _; rotate_left; (first | omega | (simp <;> omega)))))
        have hbX2 : Below w.heap.size w X := hb.trans (hbX.mono hb.size)
        have hzX : wr.heap.size + 1 ≤ X.heap.size := by rw [hX]; simp
        have HTU := Lib.hid (show TrAt X bb (bo + k * 17) y from fun i u hu => (belc hbX2 hlo').trans (by rw [Nat.add_assoc]; exact hat' k y hy i u hu))
        have HN1 := Lib.hid (show TrAt X wr.heap.size 0 x from by rw [hX]; exact TrAt.new wr x)
        obtain ⟨Y, hY⟩ : ∃ Y, Y = X.alloc (.cells y.cells.toArray 47) := ⟨_, rfl⟩
        have hbY : Below X.heap.size X Y := by rw [hY]; exact (by repeat (first | (with_reducible exact (Below.refl _ _)) | (with_reducible refine Below.drew ?_) | (with_reducible refine below_drewN ?_ _) | (with_reducible refine Below.setCell ?_ ?_ _; rotate_left; (first | omega | (simp <;> omega))) | (with_reducible refine Below.alloc ?_ ?_ _; rotate_left; (first | omega | (simp <;> omega)))))
        have hbY2 : Below w.heap.size w Y := hbX2.trans (hbY.mono hbX2.size)
        have HN1' := Lib.hid (show TrAt Y wr.heap.size 0 x from fun i u hu => (belc hbY (by omega)).trans (HN1.out i u hu))
        have HN2 := Lib.hid (show TrAt Y X.heap.size 0 y from by rw [hY]; exact TrAt.new X y)
        have HX := Lib.hid hx
        have HY := Lib.hid hy
        have hqx := HS.out.q x (List.mem_of_getElem? hx)
        have hqy := HS'.out.q y (List.mem_of_getElem? hy)
        have QX := Lib.hid (hqx.up hbY2)
        have QY := Lib.hid (hqy.up hbY2)
        have hxn : x.n ≤ 1000 := (HR.out x (List.mem_of_getElem? hx)).2.2
        clear hat hx hat' hy hqx hqy
        go_upto_region 6 with (first | (with_reducible refine wpList_load_tr rfl (.tmp 20) rfl (by simp [Act.eval]) HTR.out ?_) | (with_reducible refine wpList_store_new rfl (.tmp 8) (.tmp 21) rfl x rfl (by simp [Act.eval]) (by simp [Act.eval]) ?_))
        rw [← hX]
        have HX1 := Lib.hid hX
        clear hX
        go_upto_region 7 with (first | (with_reducible refine wpList_load_tr rfl (.tmp 24) rfl (by simp [Act.eval]) HTU.out ?_) | (with_reducible refine wpList_store_new rfl (.tmp 9) (.tmp 25) rfl y rfl (by simp [Act.eval]) (by simp [Act.eval]) ?_))
        rw [← hY]
        have HY1 := Lib.hid hY
        clear hY
        go_wp2_with (first | (with_reducible refine wpList_load_tr rfl (.tmp 8) rfl (by simp [Act.eval, Act.put]) HN1'.out ?_) | (with_reducible refine wpList_load_tr rfl (.tmp 9) rfl (by simp [Act.eval, Act.put]) HN2.out ?_))
        refine (samePt_any x y Y QX.out QY.out hxn).mono ?_
        rintro e Z ⟨rfl, hbZ⟩
        have hbwZ : Below w.heap.size w Z := hbY2.trans (hbZ.mono hbY2.size)
        cases hS : samePt x.pt y.pt with
        | true =>
          have HSS := Lib.hid hS
          clear hS
          go_wp2
          go_roundw
          case rel => exact ⟨k + 1, by omega, by go_num, Lib.hid (fun i u v hi hu hv => by
            by_cases hik : i = k
            · subst hik
              rw [HX.out] at hu; rw [HY.out] at hv
              injection hu with hu; injection hv with hv
              rw [← hu, ← hv]; exact HSS.out
            · exact hno.out i u v (by omega) hu hv), hbwZ⟩
          case measure => simp [intOf]; omega
        | false =>
          have hf : sameTs (ts.map Tr.pt) (us.map Tr.pt) = false := by
            cases h : sameTs (ts.map Tr.pt) (us.map Tr.pt) with
            | false => rfl
            | true =>
              have := sameTs_at (i := k) (t := x.pt) (u := y.pt) h (by rw [List.getElem?_map, HX.out]; rfl) (by rw [List.getElem?_map, HY.out]; rfl)
              rw [hS] at this; cases this
          have HF := Lib.hid hf
          clear hf hS
          go_wp2
          go_ret
          exact ⟨by rw [HF.out]; rfl, hbwZ⟩
      · obtain rfl : k = n := by omega
        have ht : sameTs (ts.map Tr.pt) (us.map Tr.pt) = true := sameTs_all (by rw [List.length_map, List.length_map, HL.out, HL'.out]) (fun i t u ht hu => by
          rw [List.getElem?_map, Option.map_eq_some_iff] at ht hu
          obtain ⟨a, ha, rfl⟩ := ht
          obtain ⟨b, hb', rfl⟩ := hu
          exact hno.out i a b (by have := (List.getElem?_eq_some_iff.1 ha).1; rw [HL.out] at this; exact this) ha hb')
        have HT := Lib.hid ht
        clear ht
        go_wp2
        go_ret
        exact ⟨by rw [HT.out]; rfl, hb⟩
  · have hne : ((n : Int) != (n' : Int)) = true := by simp; omega
    have hf : sameTs (ts.map Tr.pt) (us.map Tr.pt) = false := by
      cases h : sameTs (ts.map Tr.pt) (us.map Tr.pt) with
      | false => rfl
      | true =>
        have := sameTs_len h
        rw [List.length_map, List.length_map, HL.out, HL'.out] at this
        exact absurd this hnn
    have HF := Lib.hid hf
    clear hf
    go_wp2
    go_ret
    exact ⟨by rw [HF.out]; rfl, Below.refl _ _⟩

set_option maxRecDepth 100000 in
set_option maxHeartbeats 4000000 in
theorem same_any (mem : Nat → Int) (A : Option Addr) (n c : Nat) (ts : List Tr) (mem' : Nat → Int) (A' : Option Addr) (n' c' : Nat) (us : List Tr) (w : World) (hs : Sts w w.heap.size A n ts) (hs' : Sts w w.heap.size A' n' us) (hr : Roomy ts) (hn : n ≤ 9000000000000) :
    Calls Try.prog 25 #[stVal mem A n c, stVal mem' A' n' c'] w fun e w' => e = .returned (.bool (sameSt mem (ts.map Tr.pt) mem' (us.map Tr.pt))) ∧ Below w.heap.size w w' := by
  obtain ⟨W0, hW0⟩ : ∃ W0, W0 = (w.alloc (.cells #[.int .i64 (mem 0), .int .i64 (mem 1), .int .i64 (mem 2), .int .i64 (mem 3), .slice A n c] 31)).alloc (.cells #[.int .i64 (mem' 0), .int .i64 (mem' 1), .int .i64 (mem' 2), .int .i64 (mem' 3), .slice A' n' c'] 31) := ⟨_, rfl⟩
  have hb0 : Below w.heap.size w W0 := by rw [hW0]; exact (by repeat (first | (with_reducible exact (Below.refl _ _)) | (with_reducible refine Below.drew ?_) | (with_reducible refine below_drewN ?_ _) | (with_reducible refine Below.setCell ?_ ?_ _; rotate_left; (first | omega | (simp <;> omega))) | (with_reducible refine Below.alloc ?_ ?_ _; rotate_left; (first | omega | (simp <;> omega)))))
  have HS := Lib.hid (hs.up hb0)
  have HS' := Lib.hid (hs'.up hb0)
  have HR := Lib.hid hr
  clear hs hs' hr
  have heq := fun w => eqMem.1 mem mem' w
  have hgd := fun op a b w => eqMem.2 op a b mem mem' w
  unfold memVal at heq hgd
  have t0 : W0.cell? ⟨w.heap.size, 0, none⟩ = some (.int .i64 (mem 0)) := (by rw [hW0, cell_old _ _ _ _ (by simp <;> omega), cell_new _ _ _ _ _ (by simp <;> omega)]; rfl)
  have t1 : W0.cell? ⟨w.heap.size, 1, none⟩ = some (.int .i64 (mem 1)) := (by rw [hW0, cell_old _ _ _ _ (by simp <;> omega), cell_new _ _ _ _ _ (by simp <;> omega)]; rfl)
  have t2 : W0.cell? ⟨w.heap.size, 2, none⟩ = some (.int .i64 (mem 2)) := (by rw [hW0, cell_old _ _ _ _ (by simp <;> omega), cell_new _ _ _ _ _ (by simp <;> omega)]; rfl)
  have t3 : W0.cell? ⟨w.heap.size, 3, none⟩ = some (.int .i64 (mem 3)) := (by rw [hW0, cell_old _ _ _ _ (by simp <;> omega), cell_new _ _ _ _ _ (by simp <;> omega)]; rfl)
  have t4 : W0.cell? ⟨w.heap.size, 4, none⟩ = some (.slice A n c) := (by rw [hW0, cell_old _ _ _ _ (by simp <;> omega), cell_new _ _ _ _ _ (by simp <;> omega)]; rfl)
  have u0 : W0.cell? ⟨w.heap.size + 1, 0, none⟩ = some (.int .i64 (mem' 0)) := (by rw [hW0, cell_new _ _ _ _ _ (by simp <;> omega)]; rfl)
  have u1 : W0.cell? ⟨w.heap.size + 1, 1, none⟩ = some (.int .i64 (mem' 1)) := (by rw [hW0, cell_new _ _ _ _ _ (by simp <;> omega)]; rfl)
  have u2 : W0.cell? ⟨w.heap.size + 1, 2, none⟩ = some (.int .i64 (mem' 2)) := (by rw [hW0, cell_new _ _ _ _ _ (by simp <;> omega)]; rfl)
  have u3 : W0.cell? ⟨w.heap.size + 1, 3, none⟩ = some (.int .i64 (mem' 3)) := (by rw [hW0, cell_new _ _ _ _ _ (by simp <;> omega)]; rfl)
  have u4 : W0.cell? ⟨w.heap.size + 1, 4, none⟩ = some (.slice A' n' c') := (by rw [hW0, cell_new _ _ _ _ _ (by simp <;> omega)]; rfl)
  unfold stVal
  go_enter Try.func25, Try.ntmps25
  go_upto_region 1 with fail
  rw [← hW0]
  have HW0 := Lib.hid hW0
  clear hW0
  cases h1 : same4 mem mem' with
  | false =>
    have hf := Lib.hid (show sameSt mem (ts.map Tr.pt) mem' (us.map Tr.pt) = false from by unfold sameSt; rw [h1]; rfl)
    rw [h1] at heq
    go_wp2
    go_ret
    exact ⟨by rw [hf.out]; rfl, hb0⟩
  | true =>
    have hf := Lib.hid (show sameSt mem (ts.map Tr.pt) mem' (us.map Tr.pt) = sameTs (ts.map Tr.pt) (us.map Tr.pt) from by unfold sameSt; rw [h1]; rfl)
    rw [h1] at heq
    go_wp2_with fail
    refine (equalFn_any A n c ts A' n' c' us W0 HS.out HS'.out HR.out hn).mono ?_
    rintro e w1 ⟨rfl, hb1⟩
    rw [← hf.out]
    go_wp2
    go_ret
    exact ⟨rfl, hb0.trans (hb1.mono hb0.size)⟩
end Go.Proofs.Ytnomghcieomjmaa
