/- Threads are made: the walk. -/
import Derived.Test.YtnomghcieomjmaaTk
import Derived.Test.YtnomghcieomjmaaMT
namespace Go.Proofs.Ytnomghcieomjmaa
open Go.RowKit

theorem infoOp : (Try.prog.info? 51).map (fun i => (i.zero, i.size, i.bytes)) = some (some (.agg #[.int .i64 0, .int .i64 0, .int .i64 0, .int .i64 0, .int .i64 0]), 5, 40) := by kernel_rfl
theorem op_one (x : POp) : ∀ u ∈ x.cells, u.oneCell' = true := by simp [POp.cells, Value.oneCell']
theorem Dice.grown {w w' : World} {d : Nat} {row : Option Nat} (h : Dice w d) (hg : w.grownBy w' row) (hr : ∀ g, row = some g → d < g) : Dice w' d := by
  obtain ⟨hd, S, sn, sc, a, h0, h1, h2, h3, h4, h5⟩ := h
  have key : ∀ b, b ≤ d → (some b : Option Nat) ≠ row := fun b hb e => by have := hr b e.symm; omega
  refine ⟨by have := hg.size; omega, S, sn, sc, a, ((gcell hg).1 _ _ hd (key _ (Nat.le_refl _))).trans h0, ((gcell hg).1 _ _ hd (key _ (Nat.le_refl _))).trans h1, ((gcell hg).2 _ _ hd (key _ (Nat.le_refl _))).trans h2, h3, h4, fun i hi => ?_⟩
  obtain ⟨sb, so, x, e, hlt, h6, h7, h8⟩ := h5 i hi
  exact ⟨sb, so, x, e, hlt, h6, h7, ((gcell hg).1 _ _ (by omega) (key _ (by omega))).trans h8⟩
theorem Thrown.app {y x x' : World} {d : Nat} {row : Option Nat} (h : Thrown y d x) (hd : d < y.heap.size) (hg : x.grownBy x' row) (hr : ∀ g, row = some g → y.heap.size ≤ g) : Thrown y d x' :=
  ⟨h.dice.grown hg (fun g e => by have := hr g e; omega), ⟨hg.os.trans h.grown.os, hg.tape.trans h.grown.tape, hg.output.trans h.grown.output, Nat.le_trans h.grown.size hg.size, fun k hk hkr => (hg.block k (Nat.lt_of_lt_of_le hk h.grown.size) (fun e => by have := hr k e.symm; omega)).trans (h.grown.block k hk hkr)⟩⟩
theorem Thrown.up {y x x' : World} {d : Nat} (h : Thrown y d x) (hb : Below x.heap.size x x') : Thrown y d x' := h.trans (.of_below h.dice hb)
theorem own_thrown {w w' : World} {base d : Nat} {e : TypeId} {size : Nat} {v : Value} {n : Nat} {xs : List Value} (h : w.ownsRow base e size v n xs) (ht : Thrown w d w') (hd : d < base) : w'.ownsRow base e size v n xs :=
  h.kept ht.grown (by
    cases hb : v.ownBlock with
    | none => exact .inl rfl
    | some g => exact .inr (fun e => by injection e with e; have := (h.lt g hb).1; omega))
theorem made_snoc {s : List POp} {o : POp} {j : Nat} (h : ∀ (i : Nat) (x : POp), s[i]? = some x → MadeOp i x) (hl : s.length = j) (ho : MadeOp j o) : ∀ (i : Nat) (x : POp), (s ++ [o])[i]? = some x → MadeOp i x := fun i x hx => by
  rw [List.getElem?_append] at hx
  split at hx
  · exact h i x hx
  · have hi : i = s.length := by
      have := (List.getElem?_eq_some_iff.1 hx).1
      simp at this
      omega
    subst hi
    simp at hx
    subst hx
    rw [hl]; exact ho

set_option maxRecDepth 100000 in
set_option maxHeartbeats 4000000 in
theorem threads_any (d : Nat) (w : World) (hD : Dice w d) :
    Calls Try.prog 10 #[.pointer (some ⟨d, 0, none⟩)] w fun e w' => ∃ A n c l, e = .returned (.slice A n c) ∧ Mk w' w.heap.size d A n c l ∧ MadeT (l.map Th.s) ∧ Thrown w d w' := by
  obtain ⟨i0, hi, iz0, iz1, iz2⟩ := info_parts infoOps
  obtain ⟨j0, hj, jz0, jz1, jz2⟩ := info_parts infoOp
  have hdw := hD.lt
  have HD := Lib.hid hD
  go_enter Try.func10, Try.ntmps10
  go_wp2_with fail
  refine (range_any d 1 3 w hD (by decide) (by decide)).mono ?_
  rintro e w1 ⟨n, hn1, hn3, rfl, t1, z1⟩
  clear hD
  obtain ⟨m, rfl⟩ : ∃ m, n = m + 1 := ⟨n - 1, by omega⟩
  have T1 := Lib.hid t1
  clear t1
  go_upto_region 4 with fail
  go_loopw [3, 5] (fun tv iv wr => ∃ (k : Nat) (A : Option Addr) (c : Nat) (l : List Th), k ≤ m + 1 ∧ tv = .slice A k c ∧ iv = .int .i64 k ∧ Hid (Mk wr w.heap.size d A k c l) ∧ Hid (∀ x ∈ l, MadeL x.s) ∧ Hid (Thrown w d wr)) (fun _ iv _ => m + 1 - (intOf iv).toNat)
  case atStart => exact ⟨0, none, 0, [], by omega, rfl, rfl, Lib.hid (Mk.nil _ _ _), Lib.hid (fun x h => by cases h), T1⟩
  case round =>
    obtain ⟨k, A, c, l, hk, rfl, rfl, hM, hML, hT⟩ := hrel
    have hzr := hT.out.size
    by_cases hlt : k < m + 1
    · have hltI : (k : Int) < (m : Int) + 1 := by omega
      obtain ⟨K, hK1, hK5, hK⟩ : ∃ K : Nat, 1 ≤ K ∧ K ≤ 5 ∧ (#[Value.int .i64 5, .int .i64 5, .int .i64 4] : Array Value)[m]? = some (.int .i64 K) := by
        have : m = 0 ∨ m = 1 ∨ m = 2 := by omega
        rcases this with rfl | rfl | rfl
        · exact ⟨5, by decide, by decide, rfl⟩
        · exact ⟨5, by decide, by decide, rfl⟩
        · exact ⟨4, by decide, by decide, rfl⟩
      obtain ⟨X, hX⟩ : ∃ X, X = wr.alloc (.cells #[.int .i64 5, .int .i64 5, .int .i64 4] 3) := ⟨_, rfl⟩
      have c0 : (wr.alloc (.cells #[.int .i64 5, .int .i64 5, .int .i64 4] 3)).cell? ⟨wr.heap.size, m, none⟩ = some (.int .i64 K) := by rw [cell_new _ _ _ _ _ rfl]; exact hK
      have hbX : Below wr.heap.size wr X := by rw [hX]; exact (by repeat (first | (with_reducible exact (Below.refl _ _)) | (with_reducible refine Below.drew ?_) | (with_reducible refine below_drewN ?_ _) | (with_reducible refine Below.setCell ?_ ?_ _; rotate_left; (first | omega | (simp <;> omega))) | (with_reducible refine Below.alloc ?_ ?_ _; rotate_left; (first | omega | (simp <;> omega)))))
      clear hK
      go_wp2_with fail
      rw [← hX]
      have HX := Lib.hid hX
      clear hX c0
      refine (pick_any d K X ((hT.out.up hbX).dice) hK1 (by omega)).mono ?_
      rintro e y ⟨p, hp, rfl, t2, z2⟩
      have T2 := Lib.hid ((hT.out.up hbX).trans t2)
      have M2 := Lib.hid ((hM.out.below hbX).thrown t2 hdw)
      have hdy : d < y.heap.size := t2.dice.lt
      clear t2 z2
      go_upto_region 8 with fail
      go_loopw [6, 7] (fun lv kv wq => ∃ (j q : Nat) (A2 : Option Addr) (c2 : Nat) (s : List POp), j + q = p ∧ lv = .slice A2 j c2 ∧ kv = .int .i64 q ∧ Hid (wq.ownsRow y.heap.size 51 5 (.slice A2 j c2) j (s.flatMap POp.cells)) ∧ Hid (s.length = j) ∧ Hid (∀ (i : Nat) (x : POp), s[i]? = some x → MadeOp i x) ∧ Hid (Thrown y d wq)) (fun _ kv _ => (intOf kv).toNat)
      case atStart => exact ⟨0, p, none, 0, [], by omega, rfl, rfl, Lib.hid (World.ownsRow_nil _ _ _ _), Lib.hid rfl, Lib.hid (fun i x h => by simp at h), Lib.hid (.of_below T2.out.dice (Below.refl _ _))⟩
      case round =>
        obtain ⟨j, q, A2, c2, s, hjq, rfl, rfl, hO, hsl, hs, hTy⟩ := hrel
        rename World => wq
        have hyq := hTy.out.size
        by_cases hq : 0 < q
        · obtain ⟨q, rfl⟩ : ∃ q', q = q' + 1 := ⟨q - 1, by omega⟩
          go_wp2_with fail
          refine (pick_any d 3 wq hTy.out.dice (by decide) (by decide)).mono ?_
          rintro e x1 ⟨a, ha, rfl, t3, z3⟩
          go_wp2_with fail
          refine (pick_any d 2 x1 t3.dice (by decide) (by decide)).mono ?_
          rintro e x2 ⟨b, hb, rfl, t4, z4⟩
          go_wp2_with fail
          refine (pick_any d 6 x2 t4.dice (by decide) (by decide)).mono ?_
          rintro e x3 ⟨r, hr, rfl, t5, z5⟩
          have T5 := Lib.hid (((hTy.out.trans t3).trans t4).trans t5)
          have O5 := Lib.hid (own_thrown (own_thrown (own_thrown hO.out t3 hdy) t4 hdy) t5 hdy)
          clear t3 t4 t5 z3 z4 z5
          have hr' : r = 0 ∨ r = 1 ∨ r = 2 ∨ r = 3 ∨ r = 4 ∨ r = 5 := by omega
          clear hr
          rcases hr' with rfl | rfl | rfl | rfl | rfl | rfl
          · have b6 : Below x3.heap.size x3 (x3.alloc (.cells #[.int .i64 1, .int .i64 a, .int .i64 (1 + b), .int .i64 0, .int .i64 0] 51)) := (by repeat (first | (with_reducible exact (Below.refl _ _)) | (with_reducible refine Below.drew ?_) | (with_reducible refine below_drewN ?_ _) | (with_reducible refine Below.setCell ?_ ?_ _; rotate_left; (first | omega | (simp <;> omega))) | (with_reducible refine Below.alloc ?_ ?_ _; rotate_left; (first | omega | (simp <;> omega)))))
            have HO := Lib.hid (own_below O5.out b6)
            have T6 := Lib.hid (T5.out.up b6)
            go_wp2_with (at_builtin; go_must (refine wpList_append_any rfl _ _ 49 rfl y.heap.size 51 j0 _ 5 40 Try.underlying49 hj jz0 jz1 jz2 rfl (by decide) _ j (s.flatMap POp.cells) rfl HO.out (some ⟨x3.heap.size, 0, none⟩) 1 1 (POp.cells ⟨1, a, 1 + b, 0, 0⟩) rfl (by intro h; cases h) rfl (fun ad h j' u hu => by injection h with h; subst h; rw [Addr.add_lit, cell_new _ _ _ _ _ rfl, Nat.zero_add, ← Array.getElem?_toList]; exact hu) (op_one _) (by unfold maxLen; omega) (by omega) (by have := T6.out.size; simp at this ⊢; omega) ?_); intro A4 c4 w4 hown4 hgr4 hA4; have H4 := Lib.hid hown4; have T7 := Lib.hid (T6.out.app hdy hgr4 (fun g hg => (own_block_lt HO.out hg).1)); clear hown4 hgr4 hA4)
            go_roundw
            case rel => exact ⟨j + 1, q, A4, c4, s ++ [⟨1, a, 1 + b, 0, 0⟩], by omega, rfl, by go_num, Lib.hid (by rw [List.flatMap_append]; simpa using H4.out), Lib.hid (by rw [List.length_append, hsl.out]; rfl), Lib.hid (made_snoc hs.out hsl.out ⟨a, 1 + b, 0, by omega, by omega, by omega, .inl rfl⟩), T7⟩
            case measure => simp [intOf]
          · have b6 : Below x3.heap.size x3 (x3.alloc (.cells #[.int .i64 1, .int .i64 a, .int .i64 (1 + b), .int .i64 0, .int .i64 0] 51)) := (by repeat (first | (with_reducible exact (Below.refl _ _)) | (with_reducible refine Below.drew ?_) | (with_reducible refine below_drewN ?_ _) | (with_reducible refine Below.setCell ?_ ?_ _; rotate_left; (first | omega | (simp <;> omega))) | (with_reducible refine Below.alloc ?_ ?_ _; rotate_left; (first | omega | (simp <;> omega)))))
            have HO := Lib.hid (own_below O5.out b6)
            have T6 := Lib.hid (T5.out.up b6)
            go_wp2_with (at_builtin; go_must (refine wpList_append_any rfl _ _ 49 rfl y.heap.size 51 j0 _ 5 40 Try.underlying49 hj jz0 jz1 jz2 rfl (by decide) _ j (s.flatMap POp.cells) rfl HO.out (some ⟨x3.heap.size, 0, none⟩) 1 1 (POp.cells ⟨1, a, 1 + b, 0, 0⟩) rfl (by intro h; cases h) rfl (fun ad h j' u hu => by injection h with h; subst h; rw [Addr.add_lit, cell_new _ _ _ _ _ rfl, Nat.zero_add, ← Array.getElem?_toList]; exact hu) (op_one _) (by unfold maxLen; omega) (by omega) (by have := T6.out.size; simp at this ⊢; omega) ?_); intro A4 c4 w4 hown4 hgr4 hA4; have H4 := Lib.hid hown4; have T7 := Lib.hid (T6.out.app hdy hgr4 (fun g hg => (own_block_lt HO.out hg).1)); clear hown4 hgr4 hA4)
            go_roundw
            case rel => exact ⟨j + 1, q, A4, c4, s ++ [⟨1, a, 1 + b, 0, 0⟩], by omega, rfl, by go_num, Lib.hid (by rw [List.flatMap_append]; simpa using H4.out), Lib.hid (by rw [List.length_append, hsl.out]; rfl), Lib.hid (made_snoc hs.out hsl.out ⟨a, 1 + b, 0, by omega, by omega, by omega, .inl rfl⟩), T7⟩
            case measure => simp [intOf]
          · have b6 : Below x3.heap.size x3 (x3.alloc (.cells #[.int .i64 2, .int .i64 a, .int .i64 0, .int .i64 0, .int .i64 j] 51)) := (by repeat (first | (with_reducible exact (Below.refl _ _)) | (with_reducible refine Below.drew ?_) | (with_reducible refine below_drewN ?_ _) | (with_reducible refine Below.setCell ?_ ?_ _; rotate_left; (first | omega | (simp <;> omega))) | (with_reducible refine Below.alloc ?_ ?_ _; rotate_left; (first | omega | (simp <;> omega)))))
            have HO := Lib.hid (own_below O5.out b6)
            have T6 := Lib.hid (T5.out.up b6)
            go_wp2_with (at_builtin; go_must (refine wpList_append_any rfl _ _ 49 rfl y.heap.size 51 j0 _ 5 40 Try.underlying49 hj jz0 jz1 jz2 rfl (by decide) _ j (s.flatMap POp.cells) rfl HO.out (some ⟨x3.heap.size, 0, none⟩) 1 1 (POp.cells ⟨2, a, 0, 0, j⟩) rfl (by intro h; cases h) rfl (fun ad h j' u hu => by injection h with h; subst h; rw [Addr.add_lit, cell_new _ _ _ _ _ rfl, Nat.zero_add, ← Array.getElem?_toList]; exact hu) (op_one _) (by unfold maxLen; omega) (by omega) (by have := T6.out.size; simp at this ⊢; omega) ?_); intro A4 c4 w4 hown4 hgr4 hA4; have H4 := Lib.hid hown4; have T7 := Lib.hid (T6.out.app hdy hgr4 (fun g hg => (own_block_lt HO.out hg).1)); clear hown4 hgr4 hA4)
            go_roundw
            case rel => exact ⟨j + 1, q, A4, c4, s ++ [⟨2, a, 0, 0, j⟩], by omega, rfl, by go_num, Lib.hid (by rw [List.flatMap_append]; simpa using H4.out), Lib.hid (by rw [List.length_append, hsl.out]; rfl), Lib.hid (made_snoc hs.out hsl.out ⟨a, 1, 0, by omega, by omega, by omega, .inr (.inl rfl)⟩), T7⟩
            case measure => simp [intOf]
          · have b6 : Below x3.heap.size x3 (x3.alloc (.cells #[.int .i64 2, .int .i64 a, .int .i64 0, .int .i64 0, .int .i64 j] 51)) := (by repeat (first | (with_reducible exact (Below.refl _ _)) | (with_reducible refine Below.drew ?_) | (with_reducible refine below_drewN ?_ _) | (with_reducible refine Below.setCell ?_ ?_ _; rotate_left; (first | omega | (simp <;> omega))) | (with_reducible refine Below.alloc ?_ ?_ _; rotate_left; (first | omega | (simp <;> omega)))))
            have HO := Lib.hid (own_below O5.out b6)
            have T6 := Lib.hid (T5.out.up b6)
            go_wp2_with (at_builtin; go_must (refine wpList_append_any rfl _ _ 49 rfl y.heap.size 51 j0 _ 5 40 Try.underlying49 hj jz0 jz1 jz2 rfl (by decide) _ j (s.flatMap POp.cells) rfl HO.out (some ⟨x3.heap.size, 0, none⟩) 1 1 (POp.cells ⟨2, a, 0, 0, j⟩) rfl (by intro h; cases h) rfl (fun ad h j' u hu => by injection h with h; subst h; rw [Addr.add_lit, cell_new _ _ _ _ _ rfl, Nat.zero_add, ← Array.getElem?_toList]; exact hu) (op_one _) (by unfold maxLen; omega) (by omega) (by have := T6.out.size; simp at this ⊢; omega) ?_); intro A4 c4 w4 hown4 hgr4 hA4; have H4 := Lib.hid hown4; have T7 := Lib.hid (T6.out.app hdy hgr4 (fun g hg => (own_block_lt HO.out hg).1)); clear hown4 hgr4 hA4)
            go_roundw
            case rel => exact ⟨j + 1, q, A4, c4, s ++ [⟨2, a, 0, 0, j⟩], by omega, rfl, by go_num, Lib.hid (by rw [List.flatMap_append]; simpa using H4.out), Lib.hid (by rw [List.length_append, hsl.out]; rfl), Lib.hid (made_snoc hs.out hsl.out ⟨a, 1, 0, by omega, by omega, by omega, .inr (.inl rfl)⟩), T7⟩
            case measure => simp [intOf]
          · have b6 : Below x3.heap.size x3 (x3.alloc (.cells #[.int .i64 3, .int .i64 0, .int .i64 0, .int .i64 0, .int .i64 0] 51)) := (by repeat (first | (with_reducible exact (Below.refl _ _)) | (with_reducible refine Below.drew ?_) | (with_reducible refine below_drewN ?_ _) | (with_reducible refine Below.setCell ?_ ?_ _; rotate_left; (first | omega | (simp <;> omega))) | (with_reducible refine Below.alloc ?_ ?_ _; rotate_left; (first | omega | (simp <;> omega)))))
            have HO := Lib.hid (own_below O5.out b6)
            have T6 := Lib.hid (T5.out.up b6)
            go_wp2_with (at_builtin; go_must (refine wpList_append_any rfl _ _ 49 rfl y.heap.size 51 j0 _ 5 40 Try.underlying49 hj jz0 jz1 jz2 rfl (by decide) _ j (s.flatMap POp.cells) rfl HO.out (some ⟨x3.heap.size, 0, none⟩) 1 1 (POp.cells ⟨3, 0, 0, 0, 0⟩) rfl (by intro h; cases h) rfl (fun ad h j' u hu => by injection h with h; subst h; rw [Addr.add_lit, cell_new _ _ _ _ _ rfl, Nat.zero_add, ← Array.getElem?_toList]; exact hu) (op_one _) (by unfold maxLen; omega) (by omega) (by have := T6.out.size; simp at this ⊢; omega) ?_); intro A4 c4 w4 hown4 hgr4 hA4; have H4 := Lib.hid hown4; have T7 := Lib.hid (T6.out.app hdy hgr4 (fun g hg => (own_block_lt HO.out hg).1)); clear hown4 hgr4 hA4)
            go_roundw
            case rel => exact ⟨j + 1, q, A4, c4, s ++ [⟨3, 0, 0, 0, 0⟩], by omega, rfl, by go_num, Lib.hid (by rw [List.flatMap_append]; simpa using H4.out), Lib.hid (by rw [List.length_append, hsl.out]; rfl), Lib.hid (made_snoc hs.out hsl.out ⟨0, 1, 0, by omega, by omega, by omega, .inr (.inr (.inl rfl))⟩), T7⟩
            case measure => simp [intOf]
          · go_wp2_with fail
            refine (pick_any d 2 x3 T5.out.dice (by decide) (by decide)).mono ?_
            rintro e x4 ⟨g, hg, rfl, t6, z6⟩
            have T8 := Lib.hid (T5.out.trans t6)
            have O8 := Lib.hid (own_thrown O5.out t6 hdy)
            clear t6 z6
            have b6 : Below x4.heap.size x4 (x4.alloc (.cells #[.int .i64 4, .int .i64 a, .int .i64 g, .int .i64 (1 + b), .int .i64 j] 51)) := (by repeat (first | (with_reducible exact (Below.refl _ _)) | (with_reducible refine Below.drew ?_) | (with_reducible refine below_drewN ?_ _) | (with_reducible refine Below.setCell ?_ ?_ _; rotate_left; (first | omega | (simp <;> omega))) | (with_reducible refine Below.alloc ?_ ?_ _; rotate_left; (first | omega | (simp <;> omega)))))
            have HO := Lib.hid (own_below O8.out b6)
            have T6 := Lib.hid (T8.out.up b6)
            go_wp2_with (at_builtin; go_must (refine wpList_append_any rfl _ _ 49 rfl y.heap.size 51 j0 _ 5 40 Try.underlying49 hj jz0 jz1 jz2 rfl (by decide) _ j (s.flatMap POp.cells) rfl HO.out (some ⟨x4.heap.size, 0, none⟩) 1 1 (POp.cells ⟨4, a, g, 1 + b, j⟩) rfl (by intro h; cases h) rfl (fun ad h j' u hu => by injection h with h; subst h; rw [Addr.add_lit, cell_new _ _ _ _ _ rfl, Nat.zero_add, ← Array.getElem?_toList]; exact hu) (op_one _) (by unfold maxLen; omega) (by omega) (by have := T6.out.size; simp at this ⊢; omega) ?_); intro A4 c4 w4 hown4 hgr4 hA4; have H4 := Lib.hid hown4; have T7 := Lib.hid (T6.out.app hdy hgr4 (fun g hg => (own_block_lt HO.out hg).1)); clear hown4 hgr4 hA4)
            go_roundw
            case rel => exact ⟨j + 1, q, A4, c4, s ++ [⟨4, a, g, 1 + b, j⟩], by omega, rfl, by go_num, Lib.hid (by rw [List.flatMap_append]; simpa using H4.out), Lib.hid (by rw [List.length_append, hsl.out]; rfl), Lib.hid (made_snoc hs.out hsl.out ⟨a, 1 + b, g, by omega, by omega, by omega, .inr (.inr (.inr rfl))⟩), T7⟩
            case measure => simp [intOf]
        · have hq0 : q = 0 := by omega
          subst hq0
          obtain rfl : j = p := by omega
          have hb8 : Below wq.heap.size wq (wq.alloc (.cells #[.slice A2 j c2] 49)) := (by repeat (first | (with_reducible exact (Below.refl _ _)) | (with_reducible refine Below.drew ?_) | (with_reducible refine below_drewN ?_ _) | (with_reducible refine Below.setCell ?_ ?_ _; rotate_left; (first | omega | (simp <;> omega))) | (with_reducible refine Below.alloc ?_ ?_ _; rotate_left; (first | omega | (simp <;> omega)))))
          have M8 := Lib.hid ((M2.out.thrown hTy.out hdw).below hb8)
          have O8 := Lib.hid (own_below hO.out hb8)
          have T8 := Lib.hid ((T2.out.trans hTy.out).up hb8)
          have S8 := Lib.hid (Sl.of_own POp.size hsl.out O8.out)
          have hbl := Lib.hid (show ∀ g, blkOf A = some g → g < y.heap.size from fun g hg => (M2.out.row.block hg).2)
          have hbd := Lib.hid (show ∀ g, blkOf A = some g → w.heap.size ≤ g from fun g hg => (M2.out.row.block hg).1)
          have hlo := Lib.hid (show ∀ ad, A2 = some ad → y.heap.size ≤ ad.block from own_lo O8.out (Nat.le_refl _))
          have hnc := (own_room hO.out).1
          have hcm := own_cap hO.out
          go_wp2_with (at_builtin; refine wpList_append_row rfl _ _ 26 rfl w.heap.size 49 i0 _ 1 24 Try.underlying26 hi iz0 iz1 iz2 rfl (by decide) A k c (l.flatMap Th.cells) (by simp [Act.eval]) M8.out.row (some ⟨wq.heap.size, 0, none⟩) 1 1 [.slice A2 j c2] (by simp [Act.eval]) (by intro h; cases h) rfl (fun ad h j' u hu => by injection h with h; subst h; rw [Addr.add_lit, cell_new _ _ _ _ _ rfl, Nat.zero_add, ← Array.getElem?_toList]; exact hu) (by simp [Value.oneCell']) (by unfold maxLen; omega) (by omega) (by have := T8.out.size; simp at this ⊢; omega) ?_; intro A5 c5 x5 row5 gr5 or5; have M5 := Lib.hid (M8.out.snoc (t := ⟨A2, j, c2, s⟩) row5 gr5 or5 S8.out (fun _ ad e => by have h1 := hlo.out ad e; exact ⟨by omega, fun e2 => by have := hbl.out _ e2; omega⟩) ⟨hnc, hcm, by show j ≤ 1000; omega⟩); have T9 := Lib.hid (T8.out.app hdw gr5 (fun g hg => hbd.out g hg)); clear row5 gr5 or5)
          go_roundw
          case rel => exact ⟨k + 1, A5, c5, l ++ [⟨A2, j, c2, s⟩], by omega, rfl, by go_num, M5, Lib.hid (fun x hx => by
            rcases List.mem_append.1 hx with hx | hx
            · exact hML.out x hx
            · simp at hx; subst hx; exact ⟨by show s.length ≤ 4; rw [hsl.out]; omega, hs.out⟩), T9⟩
          case measure => simp [intOf]; omega
    · obtain rfl : k = m + 1 := by omega
      go_wp2
      go_ret
      refine ⟨A, m + 1, c, l, rfl, hM.out, ⟨by rw [List.length_map, hM.out.len]; omega, fun x hx => ?_⟩, hT.out⟩
      obtain ⟨t, ht, rfl⟩ := List.mem_map.1 hx
      exact hML.out t ht
end Go.Proofs.Ytnomghcieomjmaa
