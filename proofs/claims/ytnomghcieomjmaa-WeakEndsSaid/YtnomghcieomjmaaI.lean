/- The moves that are possible: the walk. -/
import Derived.Test.YtnomghcieomjmaaH
import Derived.Deep.DeepCutAuto
import Derived.Deep.DeepMust
import Derived.Deep.MidRow
import Derived.Deep.WholeRow
namespace Go.Proofs.Ytnomghcieomjmaa
open Go.RowKit

/-- A thread's state at a place. -/
def TrAt (w : World) (b o : Nat) (t : Tr) : Prop := ∀ (j : Nat) (u : Value), t.cells[j]? = some u → w.cell? ⟨b, o + j, none⟩ = some u
theorem TrAt.cells {w : World} {b o : Nat} {t : Tr} (h : TrAt w b o t) : w.cell? ⟨b, o, none⟩ = some (.bool (t.done 0)) ∧ w.cell? ⟨b, o + 1, none⟩ = some (.bool (t.done 1)) ∧ w.cell? ⟨b, o + 2, none⟩ = some (.bool (t.done 2)) ∧ w.cell? ⟨b, o + 3, none⟩ = some (.bool (t.done 3)) ∧ w.cell? ⟨b, o + 4, none⟩ = some (.bool (t.done 4)) ∧ w.cell? ⟨b, o + 5, none⟩ = some (.bool (t.done 5)) ∧ w.cell? ⟨b, o + 6, none⟩ = some (.bool (t.done 6)) ∧ w.cell? ⟨b, o + 7, none⟩ = some (.bool (t.done 7)) ∧ w.cell? ⟨b, o + 8, none⟩ = some (.int .i64 (t.regs 0)) ∧ w.cell? ⟨b, o + 9, none⟩ = some (.int .i64 (t.regs 1)) ∧ w.cell? ⟨b, o + 10, none⟩ = some (.int .i64 (t.regs 2)) ∧ w.cell? ⟨b, o + 11, none⟩ = some (.int .i64 (t.regs 3)) ∧ w.cell? ⟨b, o + 12, none⟩ = some (.int .i64 (t.regs 4)) ∧ w.cell? ⟨b, o + 13, none⟩ = some (.int .i64 (t.regs 5)) ∧ w.cell? ⟨b, o + 14, none⟩ = some (.int .i64 (t.regs 6)) ∧ w.cell? ⟨b, o + 15, none⟩ = some (.int .i64 (t.regs 7)) ∧ w.cell? ⟨b, o + 16, none⟩ = some (.slice t.A t.n t.c) :=
  ⟨h 0 _ rfl, h 1 _ rfl, h 2 _ rfl, h 3 _ rfl, h 4 _ rfl, h 5 _ rfl, h 6 _ rfl, h 7 _ rfl, h 8 _ rfl, h 9 _ rfl, h 10 _ rfl, h 11 _ rfl, h 12 _ rfl, h 13 _ rfl, h 14 _ rfl, h 15 _ rfl, h 16 _ rfl⟩
theorem TrAt.cells0 {w : World} {b : Nat} {t : Tr} (h : TrAt w b 0 t) : w.cell? ⟨b, 0, none⟩ = some (.bool (t.done 0)) ∧ w.cell? ⟨b, 1, none⟩ = some (.bool (t.done 1)) ∧ w.cell? ⟨b, 2, none⟩ = some (.bool (t.done 2)) ∧ w.cell? ⟨b, 3, none⟩ = some (.bool (t.done 3)) ∧ w.cell? ⟨b, 4, none⟩ = some (.bool (t.done 4)) ∧ w.cell? ⟨b, 5, none⟩ = some (.bool (t.done 5)) ∧ w.cell? ⟨b, 6, none⟩ = some (.bool (t.done 6)) ∧ w.cell? ⟨b, 7, none⟩ = some (.bool (t.done 7)) ∧ w.cell? ⟨b, 8, none⟩ = some (.int .i64 (t.regs 0)) ∧ w.cell? ⟨b, 9, none⟩ = some (.int .i64 (t.regs 1)) ∧ w.cell? ⟨b, 10, none⟩ = some (.int .i64 (t.regs 2)) ∧ w.cell? ⟨b, 11, none⟩ = some (.int .i64 (t.regs 3)) ∧ w.cell? ⟨b, 12, none⟩ = some (.int .i64 (t.regs 4)) ∧ w.cell? ⟨b, 13, none⟩ = some (.int .i64 (t.regs 5)) ∧ w.cell? ⟨b, 14, none⟩ = some (.int .i64 (t.regs 6)) ∧ w.cell? ⟨b, 15, none⟩ = some (.int .i64 (t.regs 7)) ∧ w.cell? ⟨b, 16, none⟩ = some (.slice t.A t.n t.c) := by
  have := h.cells
  simpa using this
theorem tr_agg : (Try.prog.info? 47).map (·.size) = some 17 := by kernel_rfl
theorem tr_one (t : Tr) : t.cells.toArray.all (·.oneCell') = true := by simp [Tr.cells, Value.oneCell']
theorem wpList_load_tr {ops : Array Oper} {rest : List Oper} {op : Oper} {a : Act} {w : World} {Q : Exit → Act → World → Prop} (hgd : op.guard = none) (x : Operand) (ho : op.op = .load 47 x)
    {b o : Nat} {t : Tr} (hx : a.eval x = .pointer (some ⟨b, o, none⟩)) (hc : TrAt w b o t) (h : wpList Try.prog ops Q rest (a.put op.dst (.agg t.cells.toArray)) w) : wpList Try.prog ops Q (op :: rest) a w :=
  wpList_load_mid hgd _ x ho b o hx t.cells _ (fun j v hv => hc j v hv) Try.underlying47 rfl tr_agg h
theorem wpList_store_new {ops : Array Oper} {rest : List Oper} {op : Oper} {a : Act} {w : World} {Q : Exit → Act → World → Prop} (hgd : op.guard = none) (x y : Operand) (ho : op.op = .store 47 x y)
    {c : Array Value} (t : Tr) (hc : c.size = 17) (hx : a.eval x = .pointer (some ⟨w.heap.size, 0, none⟩)) (hy : a.eval y = .agg t.cells.toArray)
    (h : wpList Try.prog ops Q rest (a.put op.dst undef) (w.alloc (.cells t.cells.toArray 47))) : wpList Try.prog ops Q (op :: rest) a (w.alloc (.cells c 47)) :=
  wpList_plain hgd fun _ hK => by
    unfold Oper.wp execOp
    simp only [ho, hx, hy, Sem.run_bind, Result.andThen_ok, run_storeAt_new w _ c t.cells.toArray tr_agg hc (tr_one t)]
    exact hK _ _ h
theorem TrAt.below {w w' : World} {b o : Nat} {t : Tr} (h : TrAt w b o t) (hb : Below w.heap.size w w') (hl : b < w.heap.size) : TrAt w' b o t := fun j u hu => (belc hb hl).trans (h j u hu)
theorem TrAt.grown {w w' : World} {b o : Nat} {t : Tr} {r : Option Nat} (h : TrAt w b o t) (hb : w.grownBy w' r) (hl : b < w.heap.size) (hne : r ≠ some b) : TrAt w' b o t := fun j u hu => ((gcell hb).1 b _ hl (fun e => hne e.symm)).trans (h j u hu)

set_option maxRecDepth 100000 in
set_option maxHeartbeats 4000000 in
theorem moves_any (m : Int) (A : Option Addr) (n c : Nat) (l : List Th) (m0 m1 m2 m3 : Int) (SA : Option Addr) (sn sc : Nat) (ts : List Tr) (w : World)
    (hT : Ths w w.heap.size A n l) (hn : n ≤ 9000000000000) (hm : ∀ t ∈ l, t.n ≤ 9000000000000) (hro : Rooms l) (hS : Sts w w.heap.size SA sn ts) (hrs : Roomy ts) (hsn : sn ≤ 9000000000000) :
    Calls Try.prog 13 #[.int .i64 m, .slice A n c, .agg #[.int .i64 m0, .int .i64 m1, .int .i64 m2, .int .i64 m3, .slice SA sn sc]] w (GivesM (movesP m (l.map Th.s) (ts.map Tr.pt)) w) := by
  obtain ⟨i0, hi, iz0, iz1, iz2⟩ := info_parts infoMv
  have HT := Lib.hid hT
  have HS := Lib.hid hS
  have HLT := Lib.hid hT.sl.len
  have HLS := Lib.hid hS.sl.len
  have HRO := Lib.hid hro
  have HRS := Lib.hid hrs
  clear hT hS hro hrs
  obtain ⟨W0, hW0⟩ : ∃ W0, W0 = w.alloc (.cells #[.int .i64 m0, .int .i64 m1, .int .i64 m2, .int .i64 m3, .slice SA sn sc] 31) := ⟨_, rfl⟩
  have hb0 : Below w.heap.size w W0 := by rw [hW0]; exact (by repeat (first | (with_reducible exact (Below.refl _ _)) | (with_reducible refine Below.drew ?_) | (with_reducible refine below_drewN ?_ _) | (with_reducible refine Below.setCell ?_ ?_ _; rotate_left; (first | omega | (simp <;> omega))) | (with_reducible refine Below.alloc ?_ ?_ _; rotate_left; (first | omega | (simp <;> omega)))))
  have hz0' : w.heap.size + 1 ≤ W0.heap.size := by rw [hW0]; simp
  have s4 : W0.cell? ⟨w.heap.size, 4, none⟩ = some (.slice SA sn sc) := (by rw [hW0, cell_new _ _ _ _ _ (by simp <;> omega)]; rfl)
  have S4 := Lib.hid s4
  go_enter Try.func13, Try.ntmps13
  go_upto_region 1 with fail
  rw [← hW0]
  have HW0 := Lib.hid hW0
  clear hW0
  by_cases hm0 : m < 0
  · have hv := Lib.hid (show movesP m (l.map Th.s) (ts.map Tr.pt) = [] from by unfold movesP okB; rw [decide_eq_false (by omega)]; rfl)
    go_wp2
    go_ret
    rw [hv.out]
    exact GivesM.nil hb0
  · by_cases hm3 : 3 < m
    · have hv := Lib.hid (show movesP m (l.map Th.s) (ts.map Tr.pt) = [] from by unfold movesP okB; rw [decide_eq_false (show ¬ m ≤ 3 by omega)]; simp)
      go_wp2
      go_ret
      rw [hv.out]
      exact GivesM.nil hb0
    · cases hval : validT (l.map Th.s) with
      | false =>
        have HVAL := Lib.hid hval
        have hv := Lib.hid (show movesP m (l.map Th.s) (ts.map Tr.pt) = [] from by unfold movesP okB; rw [hval]; simp)
        clear hval
        go_wp2_with (go_at_call 20; refine (valid_any A n c l W0 (HT.out.up hb0) hn hm).mono ?_; rintro e W1 ⟨rfl, hb1⟩; rw [HVAL.out])
        go_ret
        rw [hv.out]
        exact GivesM.nil (hb0.trans (hb1.mono hb0.size))
      | true =>
        have HVAL := Lib.hid hval
        clear hval
        by_cases hsl : sn = n
        · subst hsl
          have hv := Lib.hid (show movesP m (l.map Th.s) (ts.map Tr.pt) = mvs m (l.map Th.s) (ts.map Tr.pt) sn from by
            unfold movesP okB
            rw [HVAL.out, decide_eq_true (by omega), decide_eq_true (by omega), decide_eq_true (by rw [List.length_map, List.length_map, HLS.out, HLT.out]), List.length_map, HLT.out]; rfl)
          have hshape := Lib.hid (show (1 ≤ sn ∧ sn ≤ 3) ∧ ∀ x ∈ l, x.s.length ≤ 8 from by
            have h := HVAL.out
            unfold validT at h
            simp only [Bool.and_eq_true, decide_eq_true_eq, List.length_map, List.all_eq_true, HLT.out] at h
            refine ⟨h.1, fun x hx => ?_⟩
            have := h.2 x.s (List.mem_map.2 ⟨x, hx, rfl⟩)
            unfold threadB at this
            simp only [Bool.and_eq_true, decide_eq_true_eq] at this
            exact this.1)
          have hsn1 := hshape.out.1.1
          have hsn3 := hshape.out.1.2
          obtain ⟨ab, ao, rfl, hlo, hat⟩ := HT.out.sl.at_ (by omega)
          obtain ⟨sb, so, rfl, hslo, hsat⟩ := HS.out.sl.at_ (by omega)
          have HAT := Lib.hid hat
          have HSAT := Lib.hid hsat
          clear hat hsat
          have hmlen := Lib.hid (show ∀ k, (mvs m (l.map Th.s) (ts.map Tr.pt) k).length ≤ k * 1008 from mvs_len (fun y hy => by obtain ⟨x, hx, rfl⟩ := List.mem_map.1 hy; exact hshape.out.2 x hx) (fun y hy => by obtain ⟨x, hx, rfl⟩ := List.mem_map.1 hy; show x.q.length ≤ 1000; rw [(HS.out.q x hx).len]; exact (HRS.out x hx).2.2))
          go_wp2_with (go_at_call 20; refine (valid_any _ sn c l W0 (HT.out.up hb0) hn hm).mono ?_; rintro e W1 ⟨rfl, hb1⟩; rw [HVAL.out]; have t4 := (belc hb1 (by omega)).trans S4.out)
          have hbw1 := hb0.trans (hb1.mono hb0.size)
          have hz1 := hb1.size
          have T4 := Lib.hid t4
          clear t4 s4
          go_loopw [7, 34] (fun o s wr => ∃ (k : Nat) (A2 : Option Addr) (n2 c2 : Nat), k ≤ sn ∧ s = .int .i64 k ∧ o = .slice A2 n2 c2 ∧ Hid (n2 = (mvs m (l.map Th.s) (ts.map Tr.pt) k).length) ∧ Hid (wr.ownsRow W1.heap.size 41 3 (.slice A2 n2 c2) n2 ((mvs m (l.map Th.s) (ts.map Tr.pt) k).flatMap Mv.cells)) ∧ Below W1.heap.size W1 wr) (fun o s _ => sn - (intOf s).toNat)
          case atStart => exact ⟨0, none, 0, 0, Nat.zero_le _, rfl, rfl, Lib.hid rfl, Lib.hid (World.ownsRow_nil _ _ _ _), Below.refl _ _⟩
          case round =>
            obtain ⟨k, A2, n2, c2, hk, rfl, rfl, hn2, hown2, hbr⟩ := hrel
            have hzr := hbr.size
            by_cases hlt : k < sn
            · obtain ⟨x, hx⟩ : ∃ x, l[k]? = some x := ⟨_, List.getElem?_eq_getElem (by rw [HLT.out]; exact hlt)⟩
              obtain ⟨t, ht⟩ : ∃ t, ts[k]? = some t := ⟨_, List.getElem?_eq_getElem (by rw [HLS.out]; exact hlt)⟩
              have hbwr := hbw1.trans (hbr.mono hbw1.size)
              have a0 : wr.cell? ⟨ab, ao + k, none⟩ = some (.slice x.A x.n x.c) := (belc hbwr hlo).trans (by have := HAT.out k x hx 0 _ rfl; simpa using this)
              have b4 : wr.cell? ⟨w.heap.size, 4, none⟩ = some (.slice (some ⟨sb, so, none⟩) sn sc) := (belc hbr (by omega)).trans T4.out
              have HTR := Lib.hid (show TrAt wr sb (so + k * 17) t from fun j u hu => (belc hbwr hslo).trans (by rw [Nat.add_assoc]; exact HSAT.out k t ht j u hu))
              have hltI : (k : Int) < (sn : Int) := by omega
              have HX := Lib.hid hx
              have HTT := Lib.hid ht
              have hxn8 := hshape.out.2 x (List.mem_of_getElem? hx)
              have HXS := Lib.hid (HT.out.ths x (List.mem_of_getElem? hx))
              have HTQ := Lib.hid (HS.out.q t (List.mem_of_getElem? ht))
              have hxr := HRO.out x (List.mem_of_getElem? hx)
              have htr := HRS.out t (List.mem_of_getElem? ht)
              rw [HXS.out.len] at hxn8
              have hm2 := hmlen.out k
              rw [← hn2.out] at hm2
              clear hx ht
              obtain ⟨X, hX⟩ : ∃ X, X = wr.alloc (.cells t.cells.toArray 47) := ⟨_, rfl⟩
              have hbX : Below wr.heap.size wr X := by rw [hX]; exact (by repeat (first | (with_reducible exact (Below.refl _ _)) | (with_reducible refine Below.drew ?_) | (with_reducible refine below_drewN ?_ _) | (with_reducible refine Below.setCell ?_ ?_ _; rotate_left; (first | omega | (simp <;> omega))) | (with_reducible refine Below.alloc ?_ ?_ _; rotate_left; (first | omega | (simp <;> omega)))))
              have hzX : wr.heap.size + 1 ≤ X.heap.size := by rw [hX]; simp
              have hbWX : Below W1.heap.size W1 X := hbr.trans (hbX.mono hzr)
              have HOX := Lib.hid (own_below hown2.out hbX)
              have HNX := Lib.hid (show ∀ g, (Value.slice A2 n2 c2).ownBlock = some g → g ≠ wr.heap.size from fun g hg => by have := (own_block_lt hown2.out hg).2; omega)
              have HTX := Lib.hid (show TrAt X wr.heap.size 0 t from fun j u hu => by rw [hX, cell_new _ _ _ _ _ rfl, Nat.zero_add]; simpa using hu)
              go_upto_region 8 with (first | (with_reducible refine wpList_load_tr rfl (.tmp 42) rfl (by simp [Act.eval]) HTR.out ?_) | (with_reducible refine wpList_store_new rfl (.tmp 10) (.tmp 43) rfl t rfl (by simp [Act.eval]) (by simp [Act.eval]) ?_))
              rw [← hX]
              have HX2 := Lib.hid hX
              clear hX a0 b4 hbX
              go_wp2_with fail
              go_loopw [7, 46] (fun o s wq => ∃ (i : Nat) (A3 : Option Addr) (n3 c3 : Nat), i ≤ x.n ∧ s = .int .i64 i ∧ o = .slice A3 n3 c3 ∧ Hid (n3 = (mvs m (l.map Th.s) (ts.map Tr.pt) k ++ ops1 m k x.s t.pt i).length) ∧ Hid (wq.ownsRow W1.heap.size 41 3 (.slice A3 n3 c3) n3 ((mvs m (l.map Th.s) (ts.map Tr.pt) k ++ ops1 m k x.s t.pt i).flatMap Mv.cells)) ∧ Hid (∀ g, (Value.slice A3 n3 c3).ownBlock = some g → g ≠ wr.heap.size) ∧ Hid (TrAt wq wr.heap.size 0 t) ∧ wr.heap.size + 1 ≤ wq.heap.size ∧ Below W1.heap.size W1 wq) (fun o s _ => x.n - (intOf s).toNat)
              case atStart => exact ⟨0, A2, n2, c2, Nat.zero_le _, rfl, rfl, Lib.hid (by rw [hn2.out]; simp [ops1]), Lib.hid (by simpa [ops1] using HOX.out), HNX, HTX, hzX, hbWX⟩
              case round => as_aux_lemma =>
                obtain ⟨i, A3, n3, c3, hi8, rfl, rfl, hn3, hown3, hnb3, htr3, hz3, hb3⟩ := hrel
                rename World => wq
                have hbwq := hbw1.trans (hb3.mono hbw1.size)
                have hn3b : n3 ≤ 4000 := by
                  have h1 := ops1_len m k x.s t.pt i
                  have h2 := hmlen.out k
                  have h3 := hn3.out
                  rw [List.length_append] at h3
                  omega
                have hz3' := hb3.size
                by_cases hlti : i < x.n
                · obtain ⟨o, ho⟩ : ∃ o, x.s[i]? = some o := ⟨_, List.getElem?_eq_getElem (by rw [HXS.out.len]; exact hlti)⟩
                  have hltiI : (i : Int) < (x.n : Int) := by omega
                  have hsucc := Lib.hid (ops1_succ m k x.s t.pt i o ho)
                  have HO1 := Lib.hid ho
                  clear ho
                  cases hcan : canB m x.s t.done t.q.isEmpty i o with
                  | false => as_aux_lemma =>
                    have HCAN := Lib.hid hcan
                    clear hcan
                    go_wp2_with (first | (with_reducible refine wpList_load_tr rfl (.tmp 10) rfl (by simp [Act.eval]) htr3.out ?_) | (go_at_call 32; refine (can_any m x.A x.n x.c x.s t i o wq (HXS.out.up hbwq) HO1.out hxn8 hxr.1 hxr.2 HTQ.out.len).mono ?_; rintro e Y ⟨rfl, hY⟩; rw [HCAN.out]))
                    have hopY := Lib.hid (show ops1 m k x.s t.pt (i + 1) = ops1 m k x.s t.pt i from by rw [hsucc.out]; show _ ++ (if canB m x.s t.done t.q.isEmpty i o then _ else _) = _; rw [HCAN.out]; simp)
                    go_roundw
                    case rel => exact ⟨i + 1, A3, n3, c3, by omega, by go_num, rfl, Lib.hid (by rw [hopY.out]; exact hn3.out), Lib.hid (by rw [hopY.out]; exact own_below hown3.out hY), hnb3, Lib.hid (htr3.out.below hY (by omega)), by have := hY.size; omega, hb3.trans (hY.mono hz3')⟩
                    case measure => simp [intOf]; omega
                  | true => as_aux_lemma =>
                    have HCAN := Lib.hid hcan
                    clear hcan
                    go_upto_region 12 with (first | (with_reducible refine wpList_load_tr rfl (.tmp 10) rfl (by simp [Act.eval]) htr3.out ?_) | (go_at_call 32; refine (can_any m x.A x.n x.c x.s t i o wq (HXS.out.up hbwq) HO1.out hxn8 hxr.1 hxr.2 HTQ.out.len).mono ?_; rintro e Y ⟨rfl, hY⟩; rw [HCAN.out]))
                    have hopY := Lib.hid (show ops1 m k x.s t.pt (i + 1) = ops1 m k x.s t.pt i ++ [⟨k, i, 0⟩] from by rw [hsucc.out]; show _ ++ (if canB m x.s t.done t.q.isEmpty i o then _ else _) = _; rw [HCAN.out]; simp)
                    have hzY := hY.size
                    have hbAY : Below Y.heap.size Y (Y.alloc (.cells #[.int .i64 k, .int .i64 i, .int .i64 0] 41)) := (by repeat (first | (with_reducible exact (Below.refl _ _)) | (with_reducible refine Below.drew ?_) | (with_reducible refine below_drewN ?_ _) | (with_reducible refine Below.setCell ?_ ?_ _; rotate_left; (first | omega | (simp <;> omega))) | (with_reducible refine Below.alloc ?_ ?_ _; rotate_left; (first | omega | (simp <;> omega)))))
                    have HO := Lib.hid (own_below (own_below hown3.out hY) hbAY)
                    have HTY := Lib.hid ((htr3.out.below hY (by omega)).below hbAY (by omega))
                    have hl3 : ((mvs m (l.map Th.s) (ts.map Tr.pt) k ++ ops1 m k x.s t.pt i).flatMap Mv.cells).length = n3 * 3 := by rw [flat_len Mv.size, hn3.out]
                    have HL3 := Lib.hid hl3
                    clear hl3
                    go_wp2_with (at_builtin; go_must (refine wpList_append_any rfl _ _ 36 rfl W1.heap.size 41 i0 _ 3 24 Try.underlying36 hi iz0 iz1 iz2 rfl (by decide) _ n3 ((mvs m (l.map Th.s) (ts.map Tr.pt) k ++ ops1 m k x.s t.pt i).flatMap Mv.cells) rfl HO.out (some ⟨Y.heap.size, 0, none⟩) 1 1 (Mv.cells ⟨k, i, 0⟩) rfl (by intro h; cases h) rfl (fun ad h j' u hu => by injection h with h; subst h; rw [Addr.add_lit, cell_new _ _ _ _ _ rfl, Nat.zero_add, ← Array.getElem?_toList]; exact hu) (mv_one _) (by unfold maxLen; omega) (by omega) (by simp; omega) ?_); intro A4 c4 w4 hown4 hgr4 hA4; have H4 := Lib.hid hown4; have HG4 := Lib.hid hgr4; have HA4 := Lib.hid hA4; clear hown4 hgr4 hA4)
                    go_roundw
                    case rel => exact ⟨i + 1, A4, n3 + 1, c4, by omega, by go_num, rfl, Lib.hid (by rw [hopY.out, ← List.append_assoc, List.length_append, ← hn3.out]; rfl), Lib.hid (by rw [hopY.out, ← List.append_assoc, List.flatMap_append]; simpa using H4.out), Lib.hid (fun g hg => by rcases HA4.out g hg with h | h; (exact hnb3.out g h); (rw [h]; have := hbAY.size; omega)), Lib.hid (HTY.out.grown HG4.out (by have := hbAY.size; omega) (fun h => hnb3.out _ h rfl)), by have := HG4.out.size; have := hbAY.size; omega, (hb3.trans ((hY.trans (hbAY.mono hzY)).mono hz3')).grown HG4.out (by have := hbAY.size; omega) (fun g hg => (own_block_lt hown3.out hg).1)⟩
                    case measure => simp [intOf]; omega
                · obtain rfl : i = x.n := by omega
                  have hq16 : wq.cell? ⟨wr.heap.size, 16, none⟩ = some (.slice t.A t.n t.c) := by have := htr3.out 16 _ rfl; simpa using this
                  have hopl := Lib.hid (show ops1 m k x.s t.pt x.n = ops1 m k x.s t.pt x.s.length from by rw [HXS.out.len])
                  go_wp2_with fail
                  clear hq16
                  have HM3 := Lib.hid hown3.out
                  go_loopw [7, 64] (fun o s wz => ∃ (i : Nat) (A5 : Option Addr) (n5 c5 : Nat), i ≤ t.n ∧ s = .int .i64 i ∧ o = .slice A5 n5 c5 ∧ Hid (n5 = (mvs m (l.map Th.s) (ts.map Tr.pt) k ++ ops1 m k x.s t.pt x.n ++ sts1 m k t.pt i).length) ∧ Hid (wz.ownsRow W1.heap.size 41 3 (.slice A5 n5 c5) n5 ((mvs m (l.map Th.s) (ts.map Tr.pt) k ++ ops1 m k x.s t.pt x.n ++ sts1 m k t.pt i).flatMap Mv.cells)) ∧ Hid (∀ g, (Value.slice A5 n5 c5).ownBlock = some g → g ≠ wr.heap.size) ∧ Hid (TrAt wz wr.heap.size 0 t) ∧ wr.heap.size + 1 ≤ wz.heap.size ∧ Below W1.heap.size W1 wz) (fun o s _ => t.n - (intOf s).toNat)
                  case atStart => exact ⟨0, A3, n3, c3, Nat.zero_le _, rfl, rfl, Lib.hid (by rw [hn3.out]; simp [sts1]), Lib.hid (by simpa [sts1] using hown3.out), hnb3, htr3, hz3, hb3⟩
                  case round => as_aux_lemma =>
                    obtain ⟨i, A5, n3, c5, hi8, rfl, rfl, hn5, hown5, hnb5, htr5, hz5, hb5⟩ := hrel
                    rename World => wz
                    have hbwz := hbw1.trans (hb5.mono hbw1.size)
                    have hn3b : n3 ≤ 5000 := by
                      have h1 := ops1_len m k x.s t.pt x.n
                      have h2 := hmlen.out k
                      have h3 := hn5.out
                      have h4 := sts1_len m k t.pt i
                      rw [List.length_append, List.length_append] at h3
                      omega
                    have hz5' := hb5.size
                    have hq16 : wz.cell? ⟨wr.heap.size, 16, none⟩ = some (.slice t.A t.n t.c) := by have := htr5.out 16 _ rfl; simpa using this
                    by_cases hlti : i < t.n
                    · obtain ⟨y, hy⟩ : ∃ y, t.q[i]? = some y := ⟨_, List.getElem?_eq_getElem (by rw [HTQ.out.len]; exact hlti)⟩
                      have hltiI : (i : Int) < (t.n : Int) := by omega
                      have hsucc := Lib.hid (sts1_succ m k t.pt i y hy)
                      have HY1 := Lib.hid hy
                      clear hy
                      cases harr : arrB m t.q i y with
                      | false => as_aux_lemma =>
                        have HARR := Lib.hid harr
                        clear harr
                        go_wp2_with (go_at_call 33; refine (arrives_any m t.A t.n t.c t.q i y wz (HTQ.out.up hbwz) HY1.out htr.1 htr.2.1).mono ?_; rintro e Y ⟨rfl, hY⟩; rw [HARR.out])
                        have hstY := Lib.hid (show sts1 m k t.pt (i + 1) = sts1 m k t.pt i from by rw [hsucc.out]; show _ ++ (if arrB m t.q i y then _ else _) = _; rw [HARR.out]; simp)
                        go_roundw
                        case rel => exact ⟨i + 1, A5, n3, c5, by omega, by go_num, rfl, Lib.hid (by rw [hstY.out]; exact hn5.out), Lib.hid (by rw [hstY.out]; exact own_below hown5.out hY), hnb5, Lib.hid (htr5.out.below hY (by omega)), by have := hY.size; omega, hb5.trans (hY.mono hz5')⟩
                        case measure => simp [intOf]; omega
                      | true => as_aux_lemma =>
                        have HARR := Lib.hid harr
                        clear harr
                        go_upto_region 18 with (go_at_call 33; refine (arrives_any m t.A t.n t.c t.q i y wz (HTQ.out.up hbwz) HY1.out htr.1 htr.2.1).mono ?_; rintro e Y ⟨rfl, hY⟩; rw [HARR.out])
                        have hstY := Lib.hid (show sts1 m k t.pt (i + 1) = sts1 m k t.pt i ++ [⟨k, -1, i⟩] from by rw [hsucc.out]; show _ ++ (if arrB m t.q i y then _ else _) = _; rw [HARR.out]; simp)
                        have hzY := hY.size
                        have hbAY : Below Y.heap.size Y (Y.alloc (.cells #[.int .i64 k, .int .i64 (-1), .int .i64 i] 41)) := (by repeat (first | (with_reducible exact (Below.refl _ _)) | (with_reducible refine Below.drew ?_) | (with_reducible refine below_drewN ?_ _) | (with_reducible refine Below.setCell ?_ ?_ _; rotate_left; (first | omega | (simp <;> omega))) | (with_reducible refine Below.alloc ?_ ?_ _; rotate_left; (first | omega | (simp <;> omega)))))
                        have HO := Lib.hid (own_below (own_below hown5.out hY) hbAY)
                        have HTY := Lib.hid ((htr5.out.below hY (by omega)).below hbAY (by omega))
                        clear hq16
                        go_wp2_with (at_builtin; go_must (refine wpList_append_any rfl _ _ 36 rfl W1.heap.size 41 i0 _ 3 24 Try.underlying36 hi iz0 iz1 iz2 rfl (by decide) _ n3 ((mvs m (l.map Th.s) (ts.map Tr.pt) k ++ ops1 m k x.s t.pt x.n ++ sts1 m k t.pt i).flatMap Mv.cells) rfl HO.out (some ⟨Y.heap.size, 0, none⟩) 1 1 (Mv.cells ⟨k, -1, i⟩) rfl (by intro h; cases h) rfl (fun ad h j' u hu => by injection h with h; subst h; rw [Addr.add_lit, cell_new _ _ _ _ _ rfl, Nat.zero_add, ← Array.getElem?_toList]; exact hu) (mv_one _) (by unfold maxLen; omega) (by omega) (by simp; omega) ?_); intro A4 c4 w4 hown4 hgr4 hA4; have H4 := Lib.hid hown4; have HG4 := Lib.hid hgr4; have HA4 := Lib.hid hA4; clear hown4 hgr4 hA4)
                        go_roundw
                        case rel => exact ⟨i + 1, A4, n3 + 1, c4, by omega, by go_num, rfl, Lib.hid (by rw [hstY.out, ← List.append_assoc, List.length_append, ← hn5.out]; rfl), Lib.hid (by rw [hstY.out, ← List.append_assoc, List.flatMap_append]; simpa using H4.out), Lib.hid (fun g hg => by rcases HA4.out g hg with h | h; (exact hnb5.out g h); (rw [h]; have := hbAY.size; omega)), Lib.hid (HTY.out.grown HG4.out (by have := hbAY.size; omega) (fun h => hnb5.out _ h rfl)), by have := HG4.out.size; have := hbAY.size; omega, (hb5.trans ((hY.trans (hbAY.mono hzY)).mono hz5')).grown HG4.out (by have := hbAY.size; omega) (fun g hg => (own_block_lt hown5.out hg).1)⟩
                        case measure => simp [intOf]; omega
                    · obtain rfl : i = t.n := by omega
                      have hfin := Lib.hid (show mvs m (l.map Th.s) (ts.map Tr.pt) (k + 1) = mvs m (l.map Th.s) (ts.map Tr.pt) k ++ ops1 m k x.s t.pt x.n ++ sts1 m k t.pt t.n from by
                        rw [mvs_succ (l := x.s) (t := t.pt) (by rw [List.getElem?_map, HX.out]; rfl) (by rw [List.getElem?_map, HTT.out]; rfl), hopl.out, ← HTQ.out.len]
                        show _ ++ (_ ++ sts1 m k t.pt t.q.length) = _
                        rw [List.append_assoc])
                      go_wp2
                      go_roundw
                      case rel => exact ⟨k + 1, A5, n3, c5, by omega, by go_num, rfl, Lib.hid (by rw [hfin.out]; exact hn5.out), Lib.hid (by rw [hfin.out]; exact hown5.out), hb5⟩
                      case measure => simp [intOf]; omega
            · obtain rfl : k = sn := by omega
              go_wp2
              go_ret
              exact ⟨A2, n2, c2, rfl, by rw [hv.out]; exact hn2.out, (own_room hown2.out).1, own_cap hown2.out, by rw [hv.out]; exact Sl.of_own Mv.size hn2.out.symm hown2.out, hbw1.trans (hbr.mono hbw1.size), fun _ => own_lo hown2.out (by omega)⟩
        · have hne : ((sn : Int) == (n : Int)) = false := by simp; omega
          have hv := Lib.hid (show movesP m (l.map Th.s) (ts.map Tr.pt) = [] from by unfold movesP okB; rw [decide_eq_false (show ¬ (List.map Tr.pt ts).length = (List.map Th.s l).length by rw [List.length_map, List.length_map, HLS.out, HLT.out]; exact hsl)]; simp)
          go_wp2_with (go_at_call 20; refine (valid_any A n c l W0 (HT.out.up hb0) hn hm).mono ?_; rintro e W1 ⟨rfl, hb1⟩; rw [HVAL.out]; have t4 := (belc hb1 (by omega)).trans S4.out)
          go_ret
          rw [hv.out]
          exact GivesM.nil (hb0.trans (hb1.mono hb0.size))
end Go.Proofs.Ytnomghcieomjmaa
