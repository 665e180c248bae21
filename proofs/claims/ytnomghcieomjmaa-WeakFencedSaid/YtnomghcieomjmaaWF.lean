/- With fences one operation is done after the other: the walk. -/
import Derived.Test.YtnomghcieomjmaaSn
import Derived.Test.YtnomghcieomjmaaTH
import Derived.Test.YtnomghcieomjmaaDMod
import Derived.Test.YtnomghcieomjmaaFv
namespace Go.Proofs.Ytnomghcieomjmaa
open Go.RowKit

structure FS (ls : List (List POp)) (ts : List Pt) : Prop where
  i : FenI (fenT ls) ts
  len : ts.length = ls.length
theorem fs_start (ls : List (List POp)) : FS ls (List.replicate ls.length pt0) := ⟨fen_start _ _, by simp⟩
theorem fs_step {m : Int} {ls : List (List POp)} {mem : Nat → Int} {ts : List Pt} {v : Mv} (h : v ∈ movesP m (fenT ls) ts) (hs : FS ls ts) : FS ls (stepF m (fenT ls) mem ts v).2 ∧ left2 (fenT ls) (stepF m (fenT ls) mem ts v).2 < left2 (fenT ls) ts := by
  obtain ⟨mem', ts', hst⟩ := mem_stp mem h
  rw [stp_fun hst]
  exact ⟨⟨fen_stp hs.i hst, by rw [stp_len hst]; exact hs.len⟩, stp_left hst⟩
theorem sum_le : ∀ (ls : List (List POp)), (∀ l ∈ ls, l.length ≤ 7) → (ls.map fun l => 2 * l.length).sum ≤ 14 * ls.length
  | [], _ => Nat.le_refl _
  | l :: ls, h => by
    have h1 := h l (List.mem_cons_self ..)
    have h2 := sum_le ls (fun x hx => h x (List.mem_cons_of_mem _ hx))
    rw [List.map_cons, List.sum_cons, List.length_cons]
    omega
theorem fen_total {ls : List (List POp)} (h : MadeT ls) : left2 (fenT ls) (List.replicate ls.length pt0) ≤ 42 := by
  have h1 := left_new (fenT ls)
  rw [show (fenT ls).length = ls.length from by simp [fenT]] at h1
  rw [h1]
  have h2 := sum_le (fenT ls) (fun l hl => by
    obtain ⟨x, hx, rfl⟩ := List.mem_map.1 hl
    rw [fen_len]
    have := (h.2 x hx).1
    omega)
  have h3 := h.1.2
  rw [show (fenT ls).length = ls.length from by simp [fenT]] at h2
  omega
theorem fen_facts {m : Int} {ls : List (List POp)} {ts : List Pt} {v : Mv} (hs : FenI (fenT ls) ts) (h8 : ∀ l ∈ fenT ls, l.length ≤ 8) (h : v ∈ movesP m (fenT ls) ts) :
    ∃ (k : Nat) (l : List POp) (t : Pt), v.thread = k ∧ (fenT ls)[k]? = some l ∧ ts[k]? = some t ∧ (∀ i : Nat, (i : Int) < v.op → i < 8 ∧ t.done i = true) ∧ (¬ (0 : Int) < v.op ∨ ∃ (i : Nat) (o : POp), v.op = i ∧ l[i]? = some o ∧ (o.kind = 3 → t.q = [])) := by
  obtain ⟨_, k, l, t, hl, ht, hc⟩ := mem_moves.1 h
  rcases hc with ⟨i, o, ho, hc, rfl⟩ | ⟨i, x, hx, _, rfl⟩
  · refine ⟨k, l, t, rfl, hl, ht, fun j hj => ?_, .inr ⟨i, o, rfl, ho, fun h3 => ?_⟩⟩
    · have hj' : j < i := by simpa using hj
      have h1 := (List.getElem?_eq_some_iff.1 ho).1
      have h2 := h8 l (List.mem_of_getElem? hl)
      exact ⟨by omega, fen_before hs hl ht ho hc j hj'⟩
    · unfold canB at hc
      simp only [Bool.and_eq_true, h3, waitsB] at hc
      simpa using hc.2
  · exact ⟨k, l, t, rfl, hl, ht, (fun j hj => absurd hj (by simp)), .inl (by simp)⟩
theorem fenT_take {ls : List (List POp)} {k : Nat} {x : List POp} (h : ls[k]? = some x) : fenT (ls.take (k + 1)) = fenT (ls.take k) ++ [fen x x.length] := by
  rw [List.take_add_one, h]
  simp [fenT]

set_option maxRecDepth 100000 in
set_option maxHeartbeats 4000000 in
theorem fenced_any (S : Option Addr) (sn sc : Nat) (sl : List Int) (mo : Int) (w : World) (hs : Sl w w.heap.size 1 byteCells S sn sl) (hl : ∀ (i : Nat) (x : Int), sl[i]? = some x → 0 ≤ x ∧ x ≤ 255) (hnc : sn ≤ sc) (hn : sn ≤ 9223372036854775807) (hc : sc ≤ 9223372036854775807) (h2 : -9223372036854775808 ≤ mo ∧ mo ≤ 9223372036854775807) :
    Calls Try.prog 4 #[.slice S sn sc, .int .i64 mo] w fun e w' => e = .returned (.bool true) ∧ Below w.heap.size w w' := by
  obtain ⟨i0, hi, iz0, iz1, iz2⟩ := info_parts infoOps
  obtain ⟨j0, hj, jz0, jz1, jz2⟩ := info_parts infoOp
  have HS := Lib.hid hs
  have HL := Lib.hid hl
  have HMO := Lib.hid h2
  have HNC := Lib.hid hnc
  clear hs hl h2
  go_enter Try.func4, Try.ntmps4
  go_wp2_with fail
  refine (sane_any w).mono ?_
  rintro e w1 ⟨rfl, hb1⟩
  go_wp2_with fail
  refine (new_dice S sn sc sl w1 (HS.out.up hb1) HL.out HNC.out hn hc).mono ?_
  rintro e w2 ⟨d, rfl, hD, hd, hb2⟩
  have hbw2 : Below w.heap.size w w2 := hb1.trans (hb2.mono hb1.size)
  have hdl := hD.lt
  have hdw : w.heap.size ≤ d := by have := hb1.size; omega
  go_wp2_with fail
  refine (threads_any d w2 hD).mono ?_
  rintro e w3 ⟨A, n, c, l, rfl, hMk, hMT, hT⟩
  have hbw3 : Below w.heap.size w w3 := hbw2.trans (hT.below hdw hbw2.size)
  have hdl3 : d < w3.heap.size := hT.dice.lt
  have D3 := Lib.hid hT.dice
  have HTA := Lib.hid (hMk.out hdl).t
  have HMT := Lib.hid hMT
  have hn3 : n ≤ 3 := by have := hMT.1.2; rw [List.length_map, hMk.len] at this; exact this
  have hn1 : 1 ≤ n := by have := hMT.1.1; rw [List.length_map, hMk.len] at this; exact this
  have HLN := Lib.hid hMk.len
  clear hD hMk hMT hT
  go_upto_region 6 with fail
  obtain ⟨ab, ao, rfl, hlo, hat⟩ := HTA.out.sl.at_ (by omega)
  have HAT := Lib.hid hat
  clear hat
  go_loopw [6, 27] (fun tv iv wr => ∃ (k : Nat) (A2 : Option Addr) (c2 : Nat) (l2 : List Th), k ≤ n ∧ tv = .slice A2 k c2 ∧ iv = .int .i64 k ∧ Hid (Mk wr w3.heap.size d A2 k c2 l2) ∧ Hid (l2.map Th.s = fenT ((l.map Th.s).take k)) ∧ Below w3.heap.size w3 wr) (fun _ iv _ => n - (intOf iv).toNat)
  case atStart => exact ⟨0, none, 0, [], by omega, rfl, rfl, Lib.hid (Mk.nil _ _ _), Lib.hid rfl, Below.refl _ _⟩
  case round =>
    obtain ⟨k, A2, c2, l2, hk, rfl, rfl, hM, hfen, hbr⟩ := hrel
    have hzr := hbr.size
    by_cases hlt : k < n
    · have hltI : (k : Int) < (n : Int) := by omega
      obtain ⟨x, hx⟩ : ∃ x, l[k]? = some x := ⟨_, List.getElem?_eq_getElem (by rw [HLN.out]; exact hlt)⟩
      have c0 : wr.cell? ⟨ab, ao + k, none⟩ = some (.slice x.A x.n x.c) := (belc hbr hlo).trans (by have := HAT.out k x hx 0 _ rfl; simpa using this)
      have HML := Lib.hid (HMT.out.2 x.s (List.mem_map.2 ⟨x, List.mem_of_getElem? hx, rfl⟩))
      have SX := Lib.hid ((HTA.out.ths x (List.mem_of_getElem? hx)).below hbr)
      have hxn : x.n ≤ 4 := by have := HML.out.1; rw [SX.out.len] at this; exact this
      have HX := Lib.hid hx
      clear hx
      go_upto_region 10 with fail
      clear c0
      go_loopw [9, 33] (fun fv iv wq => ∃ (i j : Nat) (A3 : Option Addr) (c3 : Nat), i ≤ x.n ∧ 2 * i - 1 ≤ j ∧ j ≤ 2 * i - 1 ∧ fv = .slice A3 j c3 ∧ iv = .int .i64 i ∧ Hid (wq.ownsRow wr.heap.size 51 5 (.slice A3 j c3) j ((fen x.s i).flatMap POp.cells)) ∧ Below wr.heap.size wr wq) (fun _ iv _ => x.n - (intOf iv).toNat)
      case atStart => exact ⟨0, 0, none, 0, by omega, by omega, by omega, rfl, rfl, Lib.hid (World.ownsRow_nil _ _ _ _), Below.refl _ _⟩
      case round =>
        obtain ⟨i, j, A3, c3, hi4, hj2, hj2', rfl, rfl, hO, hbq⟩ := hrel
        rename World => wq
        have hzq := hbq.size
        by_cases hlti : i < x.n
        · have hltiI : (i : Int) < (x.n : Int) := by omega
          obtain ⟨fb, fo, hfA, hflo, hfat⟩ := SX.out.at_ (by omega)
          obtain ⟨op, hop⟩ : ∃ op, x.s[i]? = some op := ⟨_, List.getElem?_eq_getElem (by rw [SX.out.len]; exact hlti)⟩
          have k0 : wq.cell? ⟨fb, fo + i * 5, none⟩ = some (.int .i64 op.kind) := (belc hbq (by omega)).trans (hfat i op hop 0 _ rfl)
          have k1 : wq.cell? ⟨fb, fo + i * 5 + 1, none⟩ = some (.int .i64 op.word) := (belc hbq (by omega)).trans (hfat i op hop 1 _ rfl)
          have k2 : wq.cell? ⟨fb, fo + i * 5 + 2, none⟩ = some (.int .i64 op.n) := (belc hbq (by omega)).trans (hfat i op hop 2 _ rfl)
          have k3 : wq.cell? ⟨fb, fo + i * 5 + 3, none⟩ = some (.int .i64 op.m) := (belc hbq (by omega)).trans (hfat i op hop 3 _ rfl)
          have k4 : wq.cell? ⟨fb, fo + i * 5 + 4, none⟩ = some (.int .i64 op.reg) := (belc hbq (by omega)).trans (hfat i op hop 4 _ rfl)
          have hfs : fen x.s (i + 1) = if i = 0 then [op] else fen x.s i ++ [fence] ++ [op] := by
            by_cases h0 : i = 0
            · subst h0; rw [if_pos rfl]; exact fen_one _ _ hop
            · rw [if_neg h0]; exact fen_succ _ _ _ (by omega) hop
          have HFS := Lib.hid hfs
          obtain ⟨kd, wd, nn, mm, rg⟩ := op
          simp only at k0 k1 k2 k3 k4
          rw [hfA]
          clear hfat hop hfA hfs
          obtain ⟨X, hX⟩ : ∃ X, X = wq.alloc (.cells #[.int .i64 kd, .int .i64 wd, .int .i64 nn, .int .i64 mm, .int .i64 rg] 51) := ⟨_, rfl⟩
          have hbX : Below wq.heap.size wq X := by rw [hX]; exact (by repeat (first | (with_reducible exact (Below.refl _ _)) | (with_reducible refine Below.drew ?_) | (with_reducible refine below_drewN ?_ _) | (with_reducible refine Below.setCell ?_ ?_ _; rotate_left; (first | omega | (simp <;> omega))) | (with_reducible refine Below.alloc ?_ ?_ _; rotate_left; (first | omega | (simp <;> omega)))))
          have hzX : wq.heap.size + 1 ≤ X.heap.size := by rw [hX]; simp
          have OX := Lib.hid (own_below hO.out hbX)
          have hbl := Lib.hid (show ∀ g, (Value.slice A3 j c3).ownBlock = some g → wr.heap.size ≤ g ∧ g < wq.heap.size from fun g hg => own_block_lt hO.out hg)
          have KX := Lib.hid (show (fun w' : World => w'.cell? ⟨wq.heap.size, 0, none⟩ = some (.int .i64 kd) ∧ w'.cell? ⟨wq.heap.size, 1, none⟩ = some (.int .i64 wd) ∧ w'.cell? ⟨wq.heap.size, 2, none⟩ = some (.int .i64 nn) ∧ w'.cell? ⟨wq.heap.size, 3, none⟩ = some (.int .i64 mm) ∧ w'.cell? ⟨wq.heap.size, 4, none⟩ = some (.int .i64 rg)) X from by
            subst hX
            exact ⟨cell_new _ _ _ _ _ rfl, cell_new _ _ _ _ _ rfl, cell_new _ _ _ _ _ rfl, cell_new _ _ _ _ _ rfl, cell_new _ _ _ _ _ rfl⟩)
          have hbrX : Below wr.heap.size wr X := hbq.trans (hbX.mono hzq)
          go_upto_region 12 with fail
          rw [← hX]
          have HX2 := Lib.hid hX
          clear hX k0 k1 k2 k3 k4
          by_cases hi0 : i = 0
          · subst hi0
            obtain rfl : j = 0 := by omega
            have HFS1 := Lib.hid (show fen x.s 1 = [⟨kd, wd, nn, mm, rg⟩] from by have := HFS.out; rwa [if_pos rfl] at this)
            obtain ⟨m0, m1, m2, m3, m4⟩ := KX.out
            have b6 : Below X.heap.size X (X.alloc (.cells #[.int .i64 kd, .int .i64 wd, .int .i64 nn, .int .i64 mm, .int .i64 rg] 51)) := (by repeat (first | (with_reducible exact (Below.refl _ _)) | (with_reducible refine Below.drew ?_) | (with_reducible refine below_drewN ?_ _) | (with_reducible refine Below.setCell ?_ ?_ _; rotate_left; (first | omega | (simp <;> omega))) | (with_reducible refine Below.alloc ?_ ?_ _; rotate_left; (first | omega | (simp <;> omega)))))
            have HO := Lib.hid (own_below OX.out b6)
            go_wp2_with (at_builtin; go_must (refine wpList_append_any rfl _ _ 49 rfl wr.heap.size 51 j0 _ 5 40 Try.underlying49 hj jz0 jz1 jz2 rfl (by decide) _ 0 ((fen x.s 0).flatMap POp.cells) rfl HO.out (some ⟨X.heap.size, 0, none⟩) 1 1 (POp.cells ⟨kd, wd, nn, mm, rg⟩) rfl (by intro h; cases h) rfl (fun ad h j' u hu => by injection h with h; subst h; rw [Addr.add_lit, cell_new _ _ _ _ _ rfl, Nat.zero_add, ← Array.getElem?_toList]; exact hu) (op_one _) (by unfold maxLen; omega) (by omega) (by simp; omega) ?_); intro A4 c4 w4 hown4 hgr4 hA4; have H4 := Lib.hid hown4; have B7 : Below wr.heap.size wr w4 := (hbrX.trans (b6.mono hbrX.size)).grown hgr4 (Nat.le_trans hbrX.size b6.size) (fun g hg => (hbl.out g hg).1); clear hown4 hgr4 hA4)
            go_roundw
            case rel => exact ⟨1, 1, A4, c4, by omega, by omega, by omega, rfl, by go_num, Lib.hid (by rw [HFS1.out]; have := H4.out; simpa [fen] using this), B7⟩
            case measure => simp [intOf]; omega
          · have hi0I : (0 : Int) < (i : Int) := by omega
            have hj7 : (j : Int) < 7 := by omega
            have hj8 : ((j : Int) + 1) < 8 := by omega
            have HFS1 := Lib.hid (show fen x.s (i + 1) = fen x.s i ++ [fence] ++ [⟨kd, wd, nn, mm, rg⟩] from by have := HFS.out; rwa [if_neg hi0] at this)
            have b6 : Below X.heap.size X (X.alloc (.cells #[.int .i64 3, .int .i64 0, .int .i64 0, .int .i64 0, .int .i64 0] 51)) := (by repeat (first | (with_reducible exact (Below.refl _ _)) | (with_reducible refine Below.drew ?_) | (with_reducible refine below_drewN ?_ _) | (with_reducible refine Below.setCell ?_ ?_ _; rotate_left; (first | omega | (simp <;> omega))) | (with_reducible refine Below.alloc ?_ ?_ _; rotate_left; (first | omega | (simp <;> omega)))))
            have HO := Lib.hid (own_below OX.out b6)
            go_upto_region 14 with (at_builtin; go_must (refine wpList_append_any rfl _ _ 49 rfl wr.heap.size 51 j0 _ 5 40 Try.underlying49 hj jz0 jz1 jz2 rfl (by decide) _ j ((fen x.s i).flatMap POp.cells) rfl HO.out (some ⟨X.heap.size, 0, none⟩) 1 1 (POp.cells ⟨3, 0, 0, 0, 0⟩) rfl (by intro h; cases h) rfl (fun ad h j' u hu => by injection h with h; subst h; rw [Addr.add_lit, cell_new _ _ _ _ _ rfl, Nat.zero_add, ← Array.getElem?_toList]; exact hu) (op_one _) (by unfold maxLen; omega) (by omega) (by simp; omega) ?_); intro A4 c4 w4 hown4 hgr4 hA4; have H4 := Lib.hid hown4; have B7 : Below wr.heap.size wr w4 := (hbrX.trans (b6.mono hbrX.size)).grown hgr4 (Nat.le_trans hbrX.size b6.size) (fun g hg => (hbl.out g hg).1); have G4 := Lib.hid hgr4; clear hown4 hgr4 hA4)
            have K4 : ∀ q, w4.cell? ⟨wq.heap.size, q, none⟩ = X.cell? ⟨wq.heap.size, q, none⟩ := fun q => ((gcell G4.out).1 _ _ (by simp; omega) (fun e => by have := (hbl.out _ e.symm).2; omega)).trans (belc b6 (by omega))
            have m0 := (K4 0).trans KX.out.1
            have m1 := (K4 1).trans KX.out.2.1
            have m2 := (K4 2).trans KX.out.2.2.1
            have m3 := (K4 3).trans KX.out.2.2.2.1
            have m4 := (K4 4).trans KX.out.2.2.2.2
            have zz : X.heap.size ≤ w4.heap.size := Nat.le_trans b6.size G4.out.size
            clear K4
            have b8 : Below w4.heap.size w4 (w4.alloc (.cells #[.int .i64 kd, .int .i64 wd, .int .i64 nn, .int .i64 mm, .int .i64 rg] 51)) := (by repeat (first | (with_reducible exact (Below.refl _ _)) | (with_reducible refine Below.drew ?_) | (with_reducible refine below_drewN ?_ _) | (with_reducible refine Below.setCell ?_ ?_ _; rotate_left; (first | omega | (simp <;> omega))) | (with_reducible refine Below.alloc ?_ ?_ _; rotate_left; (first | omega | (simp <;> omega)))))
            have HO5 := Lib.hid (own_below H4.out b8)
            have hbl5 := Lib.hid (show ∀ g, (Value.slice A4 (j + 1) c4).ownBlock = some g → wr.heap.size ≤ g ∧ g < w4.heap.size from fun g hg => own_block_lt H4.out hg)
            go_wp2_with (at_builtin; go_must (refine wpList_append_any rfl _ _ 49 rfl wr.heap.size 51 j0 _ 5 40 Try.underlying49 hj jz0 jz1 jz2 rfl (by decide) _ (j + 1) ((fen x.s i).flatMap POp.cells ++ POp.cells ⟨3, 0, 0, 0, 0⟩) rfl HO5.out (some ⟨w4.heap.size, 0, none⟩) 1 1 (POp.cells ⟨kd, wd, nn, mm, rg⟩) rfl (by intro h; cases h) rfl (fun ad h j' u hu => by injection h with h; subst h; rw [Addr.add_lit, cell_new _ _ _ _ _ rfl, Nat.zero_add, ← Array.getElem?_toList]; exact hu) (op_one _) (by unfold maxLen; omega) (by omega) (by simp; omega) ?_); intro A5 c5 w5 hown5 hgr5 hA5; have H5 := Lib.hid hown5; have B9 : Below wr.heap.size wr w5 := (B7.trans (b8.mono B7.size)).grown hgr5 (Nat.le_trans B7.size b8.size) (fun g hg => (hbl5.out g hg).1); clear hown5 hgr5 hA5)
            go_roundw
            case rel => exact ⟨i + 1, j + 1 + 1, A5, c5, by omega, by omega, by omega, rfl, by go_num, Lib.hid (by rw [HFS1.out]; have := H5.out; simpa [List.flatMap_append, fence] using this), B9⟩
            case measure => simp [intOf]; omega
        · have hltiI : ¬ ((i : Int) < (x.n : Int)) := by omega
          obtain rfl : i = x.n := by omega
          have hb8 : Below wq.heap.size wq (wq.alloc (.cells #[.slice A3 j c3] 49)) := (by repeat (first | (with_reducible exact (Below.refl _ _)) | (with_reducible refine Below.drew ?_) | (with_reducible refine below_drewN ?_ _) | (with_reducible refine Below.setCell ?_ ?_ _; rotate_left; (first | omega | (simp <;> omega))) | (with_reducible refine Below.alloc ?_ ?_ _; rotate_left; (first | omega | (simp <;> omega)))))
          have M8 := Lib.hid ((hM.out.below hbq).below hb8)
          have O8 := Lib.hid (own_below hO.out hb8)
          have hfl : (fen x.s x.n).length = j := by rw [fen_len]; omega
          have S8 := Lib.hid (Sl.of_own POp.size hfl O8.out)
          have hbl := Lib.hid (show ∀ g, blkOf A2 = some g → g < wr.heap.size from fun g hg => (hM.out.row.block hg).2)
          have hbd := Lib.hid (show ∀ g, blkOf A2 = some g → w3.heap.size ≤ g from fun g hg => (hM.out.row.block hg).1)
          have hlo3 := Lib.hid (show ∀ ad, A3 = some ad → wr.heap.size ≤ ad.block from own_lo O8.out (Nat.le_refl _))
          have hnc3 := (own_room hO.out).1
          have hcm := own_cap hO.out
          have hbr8 : Below w3.heap.size w3 (wq.alloc (.cells #[.slice A3 j c3] 49)) := (hbr.trans (hbq.mono hzr)).trans (hb8.mono (by omega))
          have HX3 := Lib.hid (show fenT ((l.map Th.s).take (k + 1)) = fenT ((l.map Th.s).take k) ++ [fen x.s x.n] from by rw [fenT_take (x := x.s) (by rw [List.getElem?_map, HX.out]; rfl), SX.out.len])
          go_wp2_with (at_builtin; refine wpList_append_row rfl _ _ 26 rfl w3.heap.size 49 i0 _ 1 24 Try.underlying26 hi iz0 iz1 iz2 rfl (by decide) A2 k c2 (l2.flatMap Th.cells) (by simp [Act.eval]) M8.out.row (some ⟨wq.heap.size, 0, none⟩) 1 1 [.slice A3 j c3] (by simp [Act.eval]) (by intro h; cases h) rfl (fun ad h j' u hu => by injection h with h; subst h; rw [Addr.add_lit, cell_new _ _ _ _ _ rfl, Nat.zero_add, ← Array.getElem?_toList]; exact hu) (by simp [Value.oneCell']) (by unfold maxLen; omega) (by omega) (by simp; omega) ?_; intro A5 c5 x5 row5 gr5 or5; have M5 := Lib.hid (M8.out.snoc (t := ⟨A3, j, c3, fen x.s x.n⟩) row5 gr5 or5 S8.out (fun _ ad e => by have h1 := hlo3.out ad e; exact ⟨by omega, fun e2 => by have := hbl.out _ e2; omega⟩) ⟨hnc3, hcm, by show j ≤ 1000; omega⟩); have b5 : Below w3.heap.size w3 x5 := hbr8.grown gr5 hbr8.size (fun g hg => hbd.out g hg); clear row5 gr5 or5)
          go_roundw
          case rel => exact ⟨k + 1, A5, c5, l2 ++ [⟨A3, j, c3, fen x.s x.n⟩], by omega, rfl, by go_num, M5, Lib.hid (by rw [List.map_append, hfen.out, HX3.out]; rfl), b5⟩
          case measure => simp [intOf]; omega
    · have hltI : ¬ ((k : Int) < (n : Int)) := by omega
      obtain rfl : k = n := by omega
      have hfull : l2.map Th.s = fenT (l.map Th.s) := by have := hfen.out; rwa [List.take_of_length_le (by rw [List.length_map, HLN.out]; exact Nat.le_refl _)] at this
      have HFS := Lib.hid hfull
      have HVAL := Lib.hid (show validT (l2.map Th.s) = true from by rw [hfull]; exact fen_valid HMT.out)
      have H8 := Lib.hid (show ∀ q ∈ fenT (l.map Th.s), q.length ≤ 8 from fun q hq => short_of_valid (fen_valid HMT.out) hq)
      have HRO := Lib.hid hM.out.rooms
      have HSM := Lib.hid hM.out.small
      have HTD := Lib.hid (hM.out.out hdl3)
      have D1 := Lib.hid (D3.out.below hbr)
      have hn9 : k ≤ 9000000000000 := by omega
      have hbx1 : Below w.heap.size w wr := hbw3.trans (hbr.mono hbw3.size)
      clear hfull hfen
      go_wp2_with fail
      refine (mod_any mo 4 wr (by decide) (by decide) HMO.out).mono ?_
      rintro e x2 ⟨m, hm4, hme, rfl, hx2⟩
      clear hme
      have HTD2 := Lib.hid (HTD.out.up hx2)
      have D2 := Lib.hid (D1.out.below hx2)
      have hbx2 : Below w.heap.size w x2 := hbx1.trans (hx2.mono hbx1.size)
      have hzx2 := hx2.size
      go_upto_region 21 with (first | (go_at_call 11; refine (new_ok A2 k c2 l2 x2 HTD2.out.t hn9 HSM.out HVAL.out).mono ?_; rintro e Y ⟨A1, c1, rfl, hok1, hbY, hl1⟩; have HOK1 := Lib.hid hok1; have HL1 := Lib.hid hl1; clear hok1 hl1; have KZ := Lib.hid (StAt.new Y (fun _ => 0) none 0 0)) | (with_reducible refine wpList_store_st rfl (.tmp 13) (.tmp 67) rfl (mem := mem0) (A := A1) (n := k) (c := c1) (by simp [Act.eval]) (by simp [Act.eval]) KZ.out ?_; intro W1 hst hgr; have HST := Lib.hid hst; have HGR := Lib.hid hgr; clear hst hgr))
      have hbv : Below Y.heap.size Y W1 := below_var HGR.out
      have hzv : Y.heap.size + 1 ≤ W1.heap.size := size_var HGR.out
      have hzY := hbY.size
      have hbwY : Below w.heap.size w Y := hbx2.trans (hbY.mono hbx2.size)
      have hbw1 : Below w.heap.size w W1 := hbwY.trans (hbv.mono hbwY.size)
      have hbx21 : Below x2.heap.size x2 W1 := hbY.trans (hbv.mono hbY.size)
      have HOK := Lib.hid (HOK1.out.up hbv)
      have HOF := Lib.hid (show Off A1 k (List.replicate k tr0) Y.heap.size ∧ Off A1 k (List.replicate k tr0) d from ⟨Off.of_new HL1.out (.inr (Nat.le_refl _)), Off.of_new HL1.out (.inl (by omega))⟩)
      have HTD3 := Lib.hid (HTD2.out.up hbx21)
      have HTB3 := Lib.hid (show ThA W1 Y.heap.size A2 k l2 from (ThA.new HTD2.out.t hzY).up hbx21)
      have D4 := Lib.hid (D2.out.below hbx21)
      have hdY : d < Y.heap.size := by omega
      have HSW := Lib.hid (show FS (l.map Th.s) ((List.replicate k tr0).map Tr.pt) from by rw [pts_new]; have h := fs_start (l.map Th.s); rwa [List.length_map, HLN.out] at h)
      have HL0 := Lib.hid (show left2 (fenT (l.map Th.s)) ((List.replicate k tr0).map Tr.pt) + 0 ≤ 42 from by rw [pts_new]; have h := fen_total HMT.out; rwa [List.length_map, HLN.out] at h)
      obtain ⟨b, hb⟩ : ∃ b, b = Y.heap.size := ⟨_, rfl⟩
      rw [← hb] at HST HOF HTB3 hzv hdY ⊢
      clear HGR KZ HL1 HOK1 HTD HTD2 hb
      obtain ⟨TS, hTS⟩ : ∃ TS, TS = l.map Th.s := ⟨_, rfl⟩
      rw [← hTS] at HFS H8 HSW HL0 HMT
      have hLT : TS.length = k := by rw [hTS, List.length_map, HLN.out]
      have HLT := Lib.hid hLT
      clear hTS hLT
      have hm3I : (m : Int) ≤ 3 := by omega
      go_upto_region 22 with fail
      go_loopw [14, 15] (fun ev kv wr => ∃ (q : Nat) (mem : Nat → Int) (SA : Option Addr) (qn qc : Nat) (ts : List Tr), ev = .int .i64 0 ∧ kv = .int .i64 q ∧ Hid (StAt wr b mem SA qn qc) ∧ Hid (Okay wr SA qn qc ts) ∧ Hid (Off SA qn ts b ∧ Off SA qn ts d) ∧ Hid (FS TS (ts.map Tr.pt)) ∧ Hid (ThA wr d A2 k l2) ∧ Hid (ThA wr b A2 k l2) ∧ Hid (Dice wr d) ∧ Hid (left2 (fenT TS) (ts.map Tr.pt) + q ≤ 42) ∧ b + 1 ≤ wr.heap.size ∧ Below w.heap.size w wr) (fun _ kv _ => 60 - (intOf kv).toNat)
      case atStart => exact ⟨0, mem0, A1, k, c1, List.replicate k tr0, rfl, rfl, HST, HOK, HOF, HSW, HTD3, HTB3, D4, HL0, by omega, hbw1⟩
      case round =>
        obtain ⟨q, mem, SA, qn, qc, ts, rfl, rfl, hst, hok, hof, hsw, htd, htb, hdi, hleft, hzr', hbr'⟩ := hrel
        rename World => wq
        have HQ3 := hok.out.n3
        have hq42 : q ≤ 42 := by have := hleft.out; omega
        have hq60 : (q : Int) < 60 := by omega
        have HVQ := Lib.hid (show okB m (fenT TS) (ts.map Tr.pt) = true from by
          have h1 := HVAL.out
          rw [HFS.out] at h1
          unfold okB
          rw [h1, decide_eq_true (show (0 : Int) ≤ m by omega), decide_eq_true (show (m : Int) ≤ 3 by omega), decide_eq_true (by rw [hsw.out.len]; simp [fenT])]; rfl)
        go_wp2_with (first | (with_reducible refine wpList_load_st rfl (.tmp 13) rfl (by simp [Act.eval, Act.put]) hst.out ?_))
        refine (moves_any m A2 k c2 l2 (mem 0) (mem 1) (mem 2) (mem 3) SA qn qc ts wq htd.out.t hn9 HSM.out HRO.out hok.out.s hok.out.r (by omega)).mono ?_
        rintro e y2 ⟨A3, n3, c3, rfl, hn3', hnc3, hc3, hsl3, hy2, hlo3⟩
        rw [HFS.out] at hn3' hsl3
        have st2 := Lib.hid (hst.out.below hy2 (by omega))
        have ok2 := Lib.hid (hok.out.up hy2)
        have td2 := Lib.hid (htd.out.up hy2)
        have tb2 := Lib.hid (htb.out.up hy2)
        have di2 := Lib.hid (hdi.out.below hy2)
        have by2 : Below w.heap.size w y2 := hbr'.trans (hy2.mono hbr'.size)
        have zy2 := hy2.size
        have hqnk := Lib.hid (show qn = k from by have h := hsw.out.len; rw [HLT.out, List.length_map, hok.out.s.sl.len] at h; exact h)
        have hqk1 : qn ≤ k := Nat.le_of_eq hqnk.out
        have hqk2 : k ≤ qn := Nat.le_of_eq hqnk.out.symm
        by_cases h30 : n3 = 0
        · subst h30
          have hend : endedP (l2.map Th.s) (ts.map Tr.pt) = true := by
            rw [HFS.out]
            cases hE : endedP (fenT TS) (ts.map Tr.pt) with
            | true => rfl
            | false => exact absurd (List.eq_nil_of_length_eq_zero hn3'.symm) (has_move HVQ.out H8.out hE)
          have HEND := Lib.hid hend
          clear hend hn3' hsl3
          obtain ⟨q0, q1, q2, q3, q4⟩ : (y2.cell? ⟨b, 0, none⟩ = some (.int .i64 (mem 0)) ∧ y2.cell? ⟨b, 1, none⟩ = some (.int .i64 (mem 1)) ∧ y2.cell? ⟨b, 2, none⟩ = some (.int .i64 (mem 2)) ∧ y2.cell? ⟨b, 3, none⟩ = some (.int .i64 (mem 3)) ∧ y2.cell? ⟨b, 4, none⟩ = some (.slice SA qn qc)) := ⟨st2.out.m (by decide), st2.out.m (by decide), st2.out.m (by decide), st2.out.m (by decide), st2.out.s⟩
          go_wp2_with fail
          refine (ended_any A2 k c2 l2 mem SA qn qc ts y2 td2.out.t hn9 HRO.out ok2.out.s ok2.out.r (by omega) HSM.out).mono ?_
          rintro e y3 ⟨rfl, hy3⟩
          rw [HEND.out]
          go_wp2
          go_ret
          exact ⟨rfl, by2.trans (hy3.mono by2.size)⟩
        · have hn30 : 0 < n3 := by omega
          have hn3b : n3 ≤ 4000 := by
            rw [hn3']
            unfold movesP
            split
            · have := mvs_len (m := m) (ths := fenT TS) (ts := ts.map Tr.pt) H8.out (fun y hy => by obtain ⟨x, hx, rfl⟩ := List.mem_map.1 hy; show x.q.length ≤ 1000; rw [(ok2.out.s.q x hx).len]; exact (ok2.out.r x hx).2.2) (fenT TS).length
              have h2 : (fenT TS).length ≤ 3 := by have := HLT.out; simp [fenT]; omega
              omega
            · simp
          have HN3 := Lib.hid hn3'
          have HSL3 := Lib.hid hsl3
          have hbl3 := Lib.hid hlo3
          clear hn3' hsl3 hlo3
          have hn30' : ((n3 : Int) == 0) = false := by simp; omega
          go_upto_region 27 with fail
          obtain ⟨mb, mo', rfl, hmlt, hmat⟩ := HSL3.out.at_ hn30
          have hmd : mb ≠ d := by have := hbl3.out hn30 _ rfl; have := hdi.out.lt; simp only at *; omega
          have HMA := Lib.hid hmat
          clear hmat
          obtain ⟨gb, go, hSA, hglt, hgat⟩ := ok2.out.s.sl.at_ (by omega)
          have HGA := Lib.hid hgat
          have HSA := Lib.hid hSA
          obtain ⟨tb, tf, rfl, htlt, htat⟩ := td2.out.t.sl.at_ (by omega)
          have HTT := Lib.hid htat
          clear hgat hSA htat
          go_loopw [86] (fun iv wz => ∃ j : Nat, j ≤ n3 ∧ iv = .int .i64 j ∧ Below y2.heap.size y2 wz) (fun iv _ => n3 - (intOf iv).toNat)
          case atStart => exact ⟨0, Nat.zero_le _, rfl, Below.refl _ _⟩
          case round =>
            obtain ⟨j, hj3, rfl, hbz⟩ := hrel
            rename World => wz
            have hzz := hbz.size
            by_cases hltj : j < n3
            · have hltjI : (j : Int) < (n3 : Int) := by omega
              obtain ⟨v, hv⟩ : ∃ v, (movesP m (fenT TS) (ts.map Tr.pt))[j]? = some v := ⟨_, List.getElem?_eq_getElem (by rw [← HN3.out]; exact hltj)⟩
              obtain ⟨kk, lk, t, hvt, hlk, htk, hdn, hop⟩ := fen_facts hsw.out.i H8.out (List.mem_of_getElem? hv)
              have v0 : wz.cell? ⟨mb, mo' + j * 3, none⟩ = some (.int .i64 v.thread) := (belc hbz hmlt).trans (by have := HMA.out j v hv 0 _ rfl; simpa using this)
              have v1 : wz.cell? ⟨mb, mo' + j * 3 + 1, none⟩ = some (.int .i64 v.op) := (belc hbz hmlt).trans (HMA.out j v hv 1 _ rfl)
              have v2 : wz.cell? ⟨mb, mo' + j * 3 + 2, none⟩ = some (.int .i64 v.store) := (belc hbz hmlt).trans (HMA.out j v hv 2 _ rfl)
              obtain ⟨vt, vo, vs⟩ := v
              simp only at v0 v1 v2 hvt hdn hop
              subst hvt
              obtain ⟨u, hu, rfl⟩ : ∃ u, ts[kk]? = some u ∧ u.pt = t := by rw [List.getElem?_map, Option.map_eq_some_iff] at htk; exact htk
              obtain ⟨xk, hxk, rfl⟩ : ∃ xk, l2[kk]? = some xk ∧ xk.s = lk := by rw [← HFS.out, List.getElem?_map, Option.map_eq_some_iff] at hlk; exact hlk
              have hkq : kk < qn := by have := (List.getElem?_eq_some_iff.1 hu).1; rw [ok2.out.s.sl.len] at this; exact this
              have hkk : kk < k := by omega
              have hkqI : (kk : Int) < (qn : Int) := by omega
              have hkkI : (kk : Int) < (k : Int) := by omega
              obtain ⟨X, hX⟩ : ∃ X, X = wz.alloc (.cells #[.int .i64 kk, .int .i64 vo, .int .i64 vs] 41) := ⟨_, rfl⟩
              have hbX : Below wz.heap.size wz X := by rw [hX]; exact (by repeat (first | (with_reducible exact (Below.refl _ _)) | (with_reducible refine Below.drew ?_) | (with_reducible refine below_drewN ?_ _) | (with_reducible refine Below.setCell ?_ ?_ _; rotate_left; (first | omega | (simp <;> omega))) | (with_reducible refine Below.alloc ?_ ?_ _; rotate_left; (first | omega | (simp <;> omega)))))
              have hbX2 : Below y2.heap.size y2 X := hbz.trans (hbX.mono hzz)
              have x0 : X.cell? ⟨wz.heap.size, 0, none⟩ = some (.int .i64 kk) := by rw [hX]; exact cell_new _ _ _ _ _ rfl
              have x1 : X.cell? ⟨wz.heap.size, 1, none⟩ = some (.int .i64 vo) := by rw [hX]; exact cell_new _ _ _ _ _ rfl
              have s4 : X.cell? ⟨b, 4, none⟩ = some (.slice (some ⟨gb, go, none⟩) qn qc) := by rw [← HSA.out]; exact (st2.out.below hbX2 (by omega)).s
              have HDN := Lib.hid (show ∀ i : Nat, (i : Int) < vo → i < 8 ∧ X.cell? ⟨gb, go + kk * 17 + i, none⟩ = some (.bool true) from fun i hi => by
                obtain ⟨h1, h2⟩ := hdn i hi
                have h2 : u.done i = true := h2
                refine ⟨h1, ?_⟩
                have h := HGA.out kk u hu i _ (tr_at u h1)
                rw [h2] at h
                rw [Nat.add_assoc]
                exact (belc hbX2 hglt).trans h)
              have q16 : X.cell? ⟨gb, go + kk * 17 + 16, none⟩ = some (.slice u.A u.n u.c) := by rw [Nat.add_assoc]; exact (belc hbX2 hglt).trans (HGA.out kk u hu 16 _ (tr_q u))
              have t0 : X.cell? ⟨tb, tf + kk, none⟩ = some (.slice xk.A xk.n xk.c) := (belc hbX2 htlt).trans (by have := HTT.out kk xk hxk 0 _ rfl; simpa using this)
              have SK := Lib.hid ((td2.out.t.ths xk (List.mem_of_getElem? hxk)).up hbX2)
              have HOP := Lib.hid hop
              have hun : u.q.length = u.n := (ok2.out.s.q u (List.mem_of_getElem? hu)).len
              have HUN := Lib.hid hun
              clear hop hdn hun hv hlk htk
              go_upto_region 30 with fail
              rw [← hX]
              have HX2 := Lib.hid hX
              clear hX v0 v1 v2
              go_loopw [19] (fun iv wx => ∃ i : Nat, iv = .int .i64 i ∧ (i = 0 ∨ (i : Int) ≤ vo) ∧ Hid (wx = X)) (fun iv _ => vo.toNat - (intOf iv).toNat)
              case atStart => exact ⟨0, rfl, .inl rfl, Lib.hid (by trivial)⟩
              case round =>
                obtain ⟨i, rfl, hi0, hwx⟩ := hrel
                have hwx' := hwx.out.symm
                subst hwx'
                clear hwx
                by_cases hlti : (i : Int) < vo
                · obtain ⟨hi8, hci⟩ := HDN.out i hlti
                  have hi8I : (i : Int) < 8 := by omega
                  go_wp2
                  go_roundw
                  case rel => exact ⟨i + 1, by go_num, .inr (by omega), Lib.hid (by trivial)⟩
                  case measure => simp [intOf]; omega
                · go_upto_region 34 with fail
                  clear hlti hi0
                  rcases HOP.out with hop | ⟨i2, o, hvo, ho, hq⟩
                  · have hd0 : decide ((0 : Int) < vo) = false := decide_eq_false (by omega)
                    clear hop
                    go_quiet (fail)
                    go_wp2
                    go_roundw
                    case rel => exact ⟨j + 1, by omega, by go_num, below_drewN hbX2 nq⟩
                    case measure => simp [intOf]; omega
                  · subst hvo
                    have hi2n : i2 < xk.n := by have := (List.getElem?_eq_some_iff.1 ho).1; rw [SK.out.len] at this; exact this
                    have hi2I : (i2 : Int) < (xk.n : Int) := by omega
                    obtain ⟨fb, fo, hfA, hflt, hfat⟩ := SK.out.at_ (by omega)
                    have k0 : X.cell? ⟨fb, fo + i2 * 5, none⟩ = some (.int .i64 o.kind) := hfat i2 o ho 0 _ rfl
                    rw [hfA] at t0
                    clear hfat hfA
                    by_cases h0 : 0 < i2
                    · have hd0 : decide (0 < i2) = true := decide_eq_true h0
                      by_cases h3 : o.kind = 3
                      · have hq0 : u.q = [] := hq h3
                        have hun0 : u.n = 0 := by have := HUN.out; rw [hq0] at this; exact this.symm
                        rw [hun0] at q16
                        rw [h3] at k0
                        clear hq0 hun0 hq h3
                        go_quiet (fail)
                        go_wp2
                        go_roundw
                        case rel => exact ⟨j + 1, by omega, by go_num, below_drewN hbX2 nq⟩
                        case measure => simp [intOf]; omega
                      · have hk3 : (o.kind == 3) = false := by simp [h3]
                        clear h3 hq
                        go_quiet (fail)
                        go_wp2
                        go_roundw
                        case rel => exact ⟨j + 1, by omega, by go_num, below_drewN hbX2 nq⟩
                        case measure => simp [intOf]; omega
                    · have hd0 : decide (0 < i2) = false := decide_eq_false h0
                      clear hq
                      go_quiet (fail)
                      go_wp2
                      go_roundw
                      case rel => exact ⟨j + 1, by omega, by go_num, below_drewN hbX2 nq⟩
                      case measure => simp [intOf]; omega
            · have hltjI : ¬ ((j : Int) < (n3 : Int)) := by omega
              obtain rfl : j = n3 := by omega
              have st3 := Lib.hid (st2.out.below hbz (by omega))
              have ok3 := Lib.hid (ok2.out.up hbz)
              have td3 := Lib.hid (td2.out.up hbz)
              have tb3 := Lib.hid (tb2.out.up hbz)
              have di3 := Lib.hid (di2.out.below hbz)
              have by3 : Below w.heap.size w wz := by2.trans (hbz.mono by2.size)
              have hmlt3 : mb < wz.heap.size := by omega
              have KM := Lib.hid (show ∀ Y, Thrown wz d Y → ∀ (i : Nat) (v : Mv), (movesP m (fenT TS) (ts.map Tr.pt))[i]? = some v → Y.cell? ⟨mb, mo' + i * 3, none⟩ = some (.int .i64 v.thread) ∧ Y.cell? ⟨mb, mo' + i * 3 + 1, none⟩ = some (.int .i64 v.op) ∧ Y.cell? ⟨mb, mo' + i * 3 + 2, none⟩ = some (.int .i64 v.store) from fun Y hY i v hv =>
                ⟨(hY.cell hmlt3 hmd).trans ((belc hbz hmlt).trans (by have := HMA.out i v hv 0 _ rfl; simpa using this)), (hY.cell hmlt3 hmd).trans ((belc hbz hmlt).trans (HMA.out i v hv 1 _ rfl)), (hY.cell hmlt3 hmd).trans ((belc hbz hmlt).trans (HMA.out i v hv 2 _ rfl))⟩)
              have KS := Lib.hid (show ∀ Y, StAt Y b mem SA qn qc → (Y.cell? ⟨b, 0, none⟩ = some (.int .i64 (mem 0)) ∧ Y.cell? ⟨b, 1, none⟩ = some (.int .i64 (mem 1)) ∧ Y.cell? ⟨b, 2, none⟩ = some (.int .i64 (mem 2)) ∧ Y.cell? ⟨b, 3, none⟩ = some (.int .i64 (mem 3)) ∧ Y.cell? ⟨b, 4, none⟩ = some (.slice SA qn qc)) ∧ (Y.frozen? ⟨b, 0, none⟩ = false ∧ Y.frozen? ⟨b, 1, none⟩ = false ∧ Y.frozen? ⟨b, 2, none⟩ = false ∧ Y.frozen? ⟨b, 3, none⟩ = false ∧ Y.frozen? ⟨b, 4, none⟩ = false) from fun Y h => ⟨⟨h.m (by decide), h.m (by decide), h.m (by decide), h.m (by decide), h.s⟩, h.fr 0, h.fr 1, h.fr 2, h.fr 3, h.fr 4⟩)
              clear st2 ok2 td2 tb2 di2 HGA HTT
              go_upto_region 37 with fail
              obtain ⟨⟨q0, q1, q2, q3, q4⟩, _⟩ := KS.out wz st3.out
              go_region_law (first
                | (go_simp; go_at_call 16; refine (pick_any d j _ (di3.out.below (by repeat (first | (with_reducible exact (Below.refl _ _)) | (with_reducible refine Below.drew ?_) | (with_reducible refine below_drewN ?_ _) | (with_reducible refine Below.setCell ?_ ?_ _; rotate_left; (first | omega | (simp <;> omega))) | (with_reducible refine Below.alloc ?_ ?_ _; rotate_left; (first | omega | (simp <;> omega)))))) hn30 (by omega)).mono ?_; rintro e Y ⟨p, hp, rfl, ht, hz⟩; have hT : Thrown wz d Y := (Thrown.of_below di3.out (by repeat (first | (with_reducible exact (Below.refl _ _)) | (with_reducible refine Below.drew ?_) | (with_reducible refine below_drewN ?_ _) | (with_reducible refine Below.setCell ?_ ?_ _; rotate_left; (first | omega | (simp <;> omega))) | (with_reducible refine Below.alloc ?_ ?_ _; rotate_left; (first | omega | (simp <;> omega)))))).trans ht; have HTY := Lib.hid hT; obtain ⟨v, hv⟩ : ∃ v, (movesP m (fenT TS) (ts.map Tr.pt))[p]? = some v := ⟨_, List.getElem?_eq_getElem (by rw [← HN3.out]; exact hp)⟩; have HV := Lib.hid hv; obtain ⟨v0, v1, v2⟩ := KM.out Y hT p v hv; clear hv ht hT; have hpI : (p : Int) < (j : Int) := (by omega); have stY := Lib.hid (st3.out.grown HTY.out.grown (by omega) (by intro e; injection e with e; omega)); obtain ⟨⟨q0', q1', q2', q3', q4'⟩, _⟩ := KS.out Y stY.out; have okY := Lib.hid (ok3.out.put hof.out.2 HTY.out.grown); have tdY := Lib.hid (td3.out.put HTY.out.grown); have tbY := Lib.hid (tb3.out.put2 td3.out HTY.out.grown))
                | (go_simp; go_at_call 15; refine (do_ok m _ k c2 l2 mem SA qn qc ts v Y tdY.out.t hn9 HSM.out HRO.out okY.out HVAL.out (by rw [HFS.out]; exact List.mem_of_getElem? HV.out)).mono ?_; rintro e Z ⟨A4, n4, c4, ts2, rfl, hok2, hpt2, hbZ, hl1, hl2⟩; have HOK2 := Lib.hid hok2; have HPT2 := Lib.hid hpt2; have HLA := Lib.hid hl1; have HLB := Lib.hid hl2; clear hok2 hpt2 hl1 hl2; have stZ := Lib.hid (stY.out.below hbZ (by have := HTY.out.size; omega)); obtain ⟨⟨z0, z1, z2, z3, z4⟩, ⟨f0, f1, f2, f3, f4⟩⟩ := KS.out Z stZ.out; clear q0 q1 q2 q3 q4 q0' q1' q2' q3' q4'))
              all_goals
                go_wp2
                obtain ⟨sf1, sf2⟩ := fs_step (mem := mem) (List.mem_of_getElem? HV.out) hsw.out
                rw [← HFS.out, ← HPT2.out] at sf1 sf2
                have sf1 := Lib.hid sf1
                have hleft2 := Lib.hid (show left2 (fenT TS) (ts2.map Tr.pt) + (q + 1) ≤ 42 from by have := hleft.out; rw [HFS.out] at sf2; omega)
                clear sf2
                have hbyY : Below w.heap.size w Y := by3.trans (HTY.out.below hdw by3.size)
                have hbyZ : Below w.heap.size w Z := hbyY.trans (hbZ.mono hbyY.size)
                have zY := HTY.out.size
                have zZ := hbZ.size
                have G5 := Lib.hid (grown_five Z b (.int .i64 ((stepF m (l2.map Th.s) mem (ts.map Tr.pt) v).1 0)) (.int .i64 ((stepF m (l2.map Th.s) mem (ts.map Tr.pt) v).1 1)) (.int .i64 ((stepF m (l2.map Th.s) mem (ts.map Tr.pt) v).1 2)) (.int .i64 ((stepF m (l2.map Th.s) mem (ts.map Tr.pt) v).1 3)) (.slice A4 n4 c4))
                have S5 := Lib.hid (stZ.out.five (stepF m (l2.map Th.s) mem (ts.map Tr.pt) v).1 A4 n4 c4)
                go_roundw
                case measure => simp [intOf]; omega
                case rel => exact ⟨q + 1, (stepF m (l2.map Th.s) mem (ts.map Tr.pt) v).1, A4, n4, c4, ts2, rfl, by go_num, S5, Lib.hid (HOK2.out.put (Off.of_lows HLA.out HLB.out (by omega)) G5.out), Lib.hid ⟨Off.of_lows HLA.out HLB.out (by omega), Off.of_lows HLA.out HLB.out (by omega)⟩, sf1, Lib.hid ((tdY.out.up hbZ).put2 ((tbY.out).up hbZ) G5.out), Lib.hid ((tbY.out.up hbZ).put G5.out), Lib.hid ((HTY.out.dice.below hbZ).grown G5.out (fun g hg => by injection hg with hg; omega)), hleft2, by have := G5.out.size; omega, hbyZ.grown G5.out hbyZ.size (fun g hg => by injection hg with hg; omega)⟩
end Go.Proofs.Ytnomghcieomjmaa
