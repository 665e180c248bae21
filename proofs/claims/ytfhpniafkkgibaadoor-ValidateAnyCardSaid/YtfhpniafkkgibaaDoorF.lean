/- Copies of objects that the laws keep. -/
import Derived.Test.YtfhpniafkkgibaaDoorE
namespace Go.Proofs.YtfhpniafkkgibaaDoor
open Go.RowKit

theorem infoObj : (Tryd.prog.info? 39).map (fun i => (i.zero, i.size, i.bytes)) = some (some (.agg #[.int .i64 0, .slice none 0 0]), 2, 32) := by kernel_rfl
def Fr (lo : Nat) (A : Option Addr) (l : List Ob) : Prop := (∀ ad, A = some ad → lo ≤ ad.block) ∧ ∀ o ∈ l, 0 < o.n → ∀ ad, o.A = some ad → lo ≤ ad.block
theorem Fr.zero {A : Option Addr} {l : List Ob} : Fr 0 A l := ⟨fun _ _ => Nat.zero_le _, fun _ _ _ _ _ => Nat.zero_le _⟩
theorem Fr.nil {lo : Nat} : Fr lo none [] := ⟨(fun _ h => by cases h), fun _ h => by simp at h⟩
theorem flat_set1 {α : Type} {cells : α → List Value} (hsz : ∀ x, (cells x).length = 2) (x x' : α) (u v y : Value) (hx : cells x = [u, y]) (hx' : cells x' = [u, v]) : ∀ (l : List α) (k : Nat), l[k]? = some x → (l.flatMap cells).set (k * 2 + 1) v = (l.set k x').flatMap cells
  | [], k, h => by simp at h
  | z :: l, 0, h => by
    simp at h; subst h
    rw [List.flatMap_cons, hx, List.set_cons_zero, List.flatMap_cons, hx']; rfl
  | z :: l, k + 1, h => by
    have ih := flat_set1 hsz x x' u v y hx hx' l k (by simpa using h)
    have hz : (cells z).length = 2 := hsz z
    rw [List.flatMap_cons, List.set_cons_succ, List.flatMap_cons, List.set_append, if_neg (by omega), hz, show (k + 1) * 2 + 1 - 2 = k * 2 + 1 from by omega, ih]

/-- What a call leaves that gives objects to be read. -/
def GivesOs (L : List PO) (w : World) (n : Nat) (e : Ending) (w' : World) : Prop := ∃ (A : Option Addr) (c : Nat) (l : List Ob), e = .returned (.slice A n c) ∧ l.map Ob.po = L ∧ Hid (Hp w' w'.heap.size A n l) ∧ Hid (Fr w.heap.size A l) ∧ Below w.heap.size w w'

set_option maxRecDepth 100000 in
set_option maxHeartbeats 4000000 in
theorem objects_any (A : Option Addr) (n c : Nat) (l : List Ob) (w : World) (hs : Hp w w.heap.size A n l) (hn : n ≤ 4398046510976) :
    Calls Tryd.prog 11 #[.slice A n c] w (GivesOs (l.map Ob.po) w n) := by
  obtain ⟨i0, hi0, hq0, hq1, hq2⟩ := info_parts infoObj
  have HS := Lib.hid (hs.sl.src Ob.size)
  have HL := Lib.hid hs.sl.len
  have HO := Lib.hid hs.obs
  clear hs
  go_enter Tryd.func11, Tryd.ntmps11
  go_wp2_with (at_builtin; refine wpList_append_any rfl _ _ 22 rfl w.heap.size 39 i0 _ 2 32 Tryd.underlying22 hi0 hq0 hq1 hq2 rfl (by decide) (.slice none 0 0) 0 [] (by simp [Act.eval]) (World.ownsRow_nil _ _ _ _) A n c (l.flatMap Ob.cells) (by simp [Act.eval]) HS.out.1 (by rw [flat_len Ob.size, HL.out]) HS.out.2 (ob_one l) (by unfold maxLen; omega) (by omega) (Nat.le_refl _) ?_; intro A3 c3 w3 hown3 hgr3 hA3; have H3 := Lib.hid hown3; have hb3 : Below w.heap.size w w3 := (Below.refl _ _).grown hgr3 (Nat.le_refl _) (fun k hk => by cases hk); clear hown3 hgr3 hA3)
  have HOW := Lib.hid (show w3.ownsRow w.heap.size 39 2 (.slice A3 n c3) n (l.flatMap Ob.cells) from by simpa using own_eq (Nat.zero_add n) H3.out)
  clear H3
  go_loopw [9] (fun i wr => ∃ (k : Nat) (l' : List Ob), k ≤ n ∧ i = .int .i64 k ∧ Hid (l'.map Ob.po = l.map Ob.po) ∧ Hid (wr.ownsRow w.heap.size 39 2 (.slice A3 n c3) n (l'.flatMap Ob.cells)) ∧ Hid (∀ o ∈ l', Sl wr wr.heap.size 2 Val.cells o.A o.n o.s ∧ o.n ≤ 8796093021952 ∧ (0 < o.n → ∀ ad, o.A = some ad → (Value.slice A3 n c3).ownBlock ≠ some ad.block)) ∧ Hid (∀ (i : Nat) (o : Ob), i < k → l'[i]? = some o → 0 < o.n → ∀ ad, o.A = some ad → w.heap.size ≤ ad.block) ∧ Below w.heap.size w wr) (fun i _ => n - (intOf i).toNat)
  case atStart =>
    refine ⟨0, l, Nat.zero_le _, rfl, Lib.hid rfl, HOW, Lib.hid (fun o ho => ⟨(HO.out o ho).1.up hb3, (HO.out o ho).2, fun h0 ad had e => ?_⟩), Lib.hid (fun i o h => absurd h (by omega)), hb3⟩
    obtain ⟨ab, ao, e2, hlt, _⟩ := (HO.out o ho).1.at_ h0
    rw [had] at e2; injection e2 with e2; subst e2
    have := (own_block_lt HOW.out e).1
    have h3 : ab < w.heap.size := hlt
    simp only at this; omega
  case round =>
    obtain ⟨k, l', hk, rfl, hpo, hrow, hobs, hlow, hbr⟩ := hrel
    have hlen : l'.length = n := by have := congrArg List.length hpo.out; rw [List.length_map, List.length_map, HL.out] at this; exact this
    by_cases hlt : k < n
    · obtain ⟨x, hx⟩ : ∃ x, l'[k]? = some x := ⟨_, List.getElem?_eq_getElem (by rw [hlen]; exact hlt)⟩
      obtain ⟨o1, o2, o3⟩ := hobs.out x (List.mem_of_getElem? hx)
      obtain ⟨g, rfl, hg0, hg1, hfz⟩ := own_at0 hrow.out (by omega)
      have hrs := Sl.of_own Ob.size hlen hrow.out
      have c1 : wr.cell? ⟨g, k * 2 + 1, none⟩ = some (.slice x.A x.n x.c) := by have := sl_at hrs hx (j := 1) rfl; rwa [Nat.zero_add] at this
      have f1 := hfz (k * 2 + 1)
      have HX := Lib.hid hx
      have HLEN := Lib.hid hlen
      have hltI : (k : Int) < (n : Int) := by omega
      clear hrs hfz hx hlen
      go_wp2_with fail
      refine (values_any x.A x.n x.c x.s wr o1 o2).mono ?_
      rintro e Y ⟨A5, c5, rfl, hown5, hb5⟩
      have hz5 := hb5.size
      have d1 : Y.cell? ⟨g, k * 2 + 1, none⟩ = some (.slice x.A x.n x.c) := (belc hb5 hg1).trans c1
      have k1 : Y.frozen? ⟨g, k * 2 + 1, none⟩ = false := (belf hb5 hg1).trans f1
      have hgr := grown1 Y ⟨g, k * 2 + 1, none⟩ (.slice A5 x.n c5)
      have HROW := Lib.hid (show (Y.setCell ⟨g, k * 2 + 1, none⟩ (.slice A5 x.n c5)).ownsRow w.heap.size 39 2 (.slice (some ⟨g, 0, none⟩) n c3) n ((l'.set k ⟨x.id, A5, x.n, c5, x.s⟩).flatMap Ob.cells) from by
        rw [← flat_set1 Ob.size x ⟨x.id, A5, x.n, c5, x.s⟩ (.int .i64 x.id) (.slice A5 x.n c5) (.slice x.A x.n x.c) rfl rfl l' k HX.out]
        exact ((own_below hrow.out hb5).stored _ _).1)
      have HOBS := Lib.hid (show ∀ o ∈ l'.set k ⟨x.id, A5, x.n, c5, x.s⟩, Sl (Y.setCell ⟨g, k * 2 + 1, none⟩ (.slice A5 x.n c5)) (Y.setCell ⟨g, k * 2 + 1, none⟩ (.slice A5 x.n c5)).heap.size 2 Val.cells o.A o.n o.s ∧ o.n ≤ 8796093021952 ∧ (0 < o.n → ∀ ad, o.A = some ad → (Value.slice (some ⟨g, 0, none⟩) n c3).ownBlock ≠ some ad.block) from fun o ho => by
        rcases List.mem_or_eq_of_mem_set ho with hm | rfl
        · obtain ⟨p1, p2, p3⟩ := hobs.out o hm
          exact ⟨((p1.up hb5).apart (Nat.le_refl _) hgr (fun h0 ad had e => p3 h0 ad had (by injection e with e; show some g = _; rw [e]))).mono hgr.size, p2, p3⟩
        · have h5 := Sl.of_own Val.size o1.len hown5.out
          have hne : ∀ ad, A5 = some ad → g ≠ ad.block := fun ad had => by have := own_lo hown5.out (Nat.le_refl _) ad had; omega
          exact ⟨(h5.apart (Nat.le_refl _) hgr (fun h0 ad had e => hne ad had (by injection e with e; exact e.symm))).mono hgr.size, o2, fun h0 ad had e => hne ad had (by injection e)⟩)
      have HPO := Lib.hid (show (l'.set k ⟨x.id, A5, x.n, c5, x.s⟩).map Ob.po = l.map Ob.po from by
        rw [List.map_set, ← hpo.out]
        refine List.ext_getElem? fun i => ?_
        rw [List.getElem?_set]
        by_cases hki : k = i
        · subst hki
          rw [if_pos rfl, if_pos (by rw [List.length_map, HLEN.out]; exact hlt), po_at HX.out]; rfl
        · rw [if_neg hki])
      have hzr := hbr.size
      have HLOW := Lib.hid (show ∀ (i : Nat) (o : Ob), i < k + 1 → (l'.set k ⟨x.id, A5, x.n, c5, x.s⟩)[i]? = some o → 0 < o.n → ∀ ad, o.A = some ad → w.heap.size ≤ ad.block from fun i o hi ho h0 ad had => by
        rw [List.getElem?_set] at ho
        by_cases hki : k = i
        · subst hki
          rw [if_pos rfl, if_pos (by rw [HLEN.out]; exact hlt)] at ho
          injection ho with ho; subst ho
          have := own_lo hown5.out (Nat.le_refl _) ad had; omega
        · rw [if_neg hki] at ho
          exact hlow.out i o (by omega) ho h0 ad had)
      have hbF : Below w.heap.size w (Y.setCell ⟨g, k * 2 + 1, none⟩ (.slice A5 x.n c5)) := (hbr.trans (hb5.mono hbr.size)).setCell hg0 _
      clear hgr c1 f1
      go_wp2
      go_roundw
      case rel => exact ⟨k + 1, l'.set k ⟨x.id, A5, x.n, c5, x.s⟩, by omega, by go_num, HPO, HROW, HOBS, HLOW, hbF⟩
      case measure => simp [intOf]; omega
    · obtain rfl : k = n := by omega
      have HLEN := Lib.hid hlen
      clear hlen
      go_wp2
      go_ret
      exact ⟨A3, c3, l', rfl, hpo.out, Lib.hid ⟨Sl.of_own Ob.size HLEN.out hrow.out, fun o ho => ⟨(hobs.out o ho).1, (hobs.out o ho).2.1⟩⟩, Lib.hid ⟨own_lo hrow.out (Nat.le_refl _), fun o ho => by obtain ⟨i, hi⟩ := List.getElem?_of_mem ho; exact hlow.out i o (by have := (List.getElem?_eq_some_iff.1 hi).1; have := HLEN.out; omega) hi⟩, hbr⟩

end Go.Proofs.YtfhpniafkkgibaaDoor
