/- An object put into a heap: the reference. -/
import Derived.Test.YtohflngcgmcllaaD
import Derived.Test.YtohflngcgmcllaaKit3
import Derived.Test.YtohflngcgmcllaaP
import Derived.Deep.DeepCutAuto
import Derived.Deep.RegionHeld2
namespace Go.Proofs.Ytohflngcgmcllaa
open Go.RowKit

theorem gt_of {id : Int} : ∀ {l : List PO} {k : Nat}, k ≤ l.length → (∀ (i : Nat) (x : PO), i < k → l[i]? = some x → ¬ id < x.id) → (∀ x, l[k]? = some x → id < x.id) → gt id l = k
  | [], k, h, _, _ => by simp at h; subst h; rfl
  | y :: l, 0, _, _, h => by have := h y rfl; simp [gt, this]
  | y :: l, k + 1, h, h1, h2 => by
    have h0 := h1 0 y (by omega) rfl
    have ih := gt_of (id := id) (l := l) (k := k) (by simpa using h) (fun i x hi hx => h1 (i + 1) x (by omega) (by simpa using hx)) (fun x hx => h2 x (by simpa using hx))
    simp [gt, h0, ih]

theorem Sl.take {α : Type} {w : World} {B sz n k : Nat} {cells : α → List Value} {A : Option Addr} {l : List α} (h : Sl w B sz cells A n l) (hk : k ≤ n) : Sl w B sz cells A k (l.take k) := by
  refine ⟨by rw [List.length_take, h.len]; omega, fun h0 => ?_⟩
  obtain ⟨ab, ao, e, hlt, hat⟩ := h.at_ (by omega)
  refine ⟨ab, ao, e, hlt, fun i x hx => ?_⟩
  rw [List.getElem?_take] at hx
  split at hx
  · exact hat i x hx
  · cases hx
/-- Where an object goes, and where the old ones go on. -/
def PutPos (id : Int) (L : List PO) (k : Nat) : Prop := (idx id L = none ∧ gt id L = k) ∨ idx id L = some k
theorem putO_pos {o : PO} {L : List PO} {k : Nat} (h : PutPos o.id L k) (hk : k ≤ L.length) : putO o L = L.take k ++ [o] ++ L.drop (if idxI o.id L < 0 then k else k + 1) := by
  rcases h with ⟨h1, h2⟩ | h1
  · rw [if_pos (by rw [idxI, h1]; decide)]; unfold putO; rw [h1, h2]
  · have hlt : k < L.length := by
      rcases idx_cases o.id L with ⟨h2, _⟩ | ⟨i, x, h2, hx, _, _⟩
      · rw [h2] at h1; cases h1
      · rw [h2] at h1; injection h1 with h1; subst h1; exact (List.getElem?_eq_some_iff.1 hx).1
    rw [if_neg (by rw [idxI, h1]; simp)]; unfold putO; rw [h1]
    simp only [List.set_eq_take_append_cons_drop, if_pos hlt, List.append_assoc, List.cons_append, List.nil_append]

/-- The state behind the first two appends. -/
def Mid (wx : World) (r k : Nat) (o : Ob) (l : List Ob) (wz : World) : Prop := ∃ (A6 : Option Addr) (c6 : Nat) (A5 : Option Addr) (n5 c5 : Nat) (w6 : World), wz = w6.setCell ⟨r, 0, none⟩ (.slice A6 (k + 1) c6) ∧ Below wx.heap.size wx w6 ∧
  Hid (w6.ownsRow wx.heap.size 27 2 (.slice A6 (k + 1) c6) (k + 1) ((l.take k ++ [(⟨o.id, A5, n5, c5, o.s⟩ : Ob)]).flatMap Ob.cells)) ∧ Hid (Sl w6 w6.heap.size 2 Val.cells A5 n5 o.s) ∧ n5 = o.s.length ∧
  Hid (∀ ad, A5 = some ad → wx.heap.size ≤ ad.block ∧ (Value.slice A6 (k + 1) c6).ownBlock ≠ some ad.block)
theorem mid_intro {wx w4 Y w6 : World} {k n5 c4 c5 c6 r : Nat} {A4 A5 A6 : Option Addr} {o : Ob} {l : List Ob} {u : Obj} (hb4 : Below wx.heap.size wx w4) (H4 : w4.ownsRow wx.heap.size 27 2 (.slice A4 (0 + k) c4) (0 + k) ([] ++ (l.take k).flatMap Ob.cells))
    (hbY : Below w4.heap.size w4 Y) (hown5 : Y.ownsRow w4.heap.size 29 2 (.slice A5 n5 c5) n5 (o.s.flatMap Val.cells)) (hn5 : n5 = o.s.length)
    (hown6 : w6.ownsRow wx.heap.size 27 2 (.slice A6 (0 + k + 1) c6) (0 + k + 1) (([] ++ (l.take k).flatMap Ob.cells) ++ Ob.cells ⟨o.id, A5, n5, c5, o.s⟩)) (hgr6 : (Y.alloc u).grownBy w6 (Value.slice A4 (0 + k) c4).ownBlock)
    (hor6 : ∀ g, (Value.slice A6 (0 + k + 1) c6).ownBlock = some g → (Value.slice A4 (0 + k) c4).ownBlock = some g ∨ g = (Y.alloc u).heap.size) :
    Mid wx r k o l (w6.setCell ⟨r, 0, none⟩ (.slice A6 (k + 1) c6)) := by
  have e : 0 + k = k := Nat.zero_add k
  have hYA : Below Y.heap.size Y (Y.alloc u) := (Below.refl _ _).alloc (Nat.le_refl _) _
  have hz4 := hb4.size
  have hzY := hbY.size
  have hzA : (Y.alloc u).heap.size = Y.heap.size + 1 := by simp
  have hbA : Below wx.heap.size wx (Y.alloc u) := (hb4.trans (hbY.mono hz4)).trans (hYA.mono (by omega))
  have hlo : ∀ ad, A5 = some ad → w4.heap.size ≤ ad.block ∧ ad.block < Y.heap.size := fun ad had => by subst had; exact own_block_lt hown5 (k := ad.block) rfl
  refine ⟨A6, c6, A5, n5, c5, w6, rfl, hbA.grown hgr6 (by omega) (fun g hg => (own_block_lt H4 hg).1), Lib.hid ?_, Lib.hid ?_, hn5, Lib.hid fun ad had => ?_⟩
  · have h := own_eq (congrArg (· + 1) e) hown6
    simpa using h
  · refine (((Sl.of_own Val.size hn5.symm hown5).up hYA).apart (Nat.le_refl _) hgr6 (fun _ ad had e => ?_)).mono hgr6.size
    have h1 := hlo ad had
    have h2 := own_block_lt H4 e.symm
    omega
  · have h1 := hlo ad had
    refine ⟨by omega, fun e => ?_⟩
    have h2 : (Value.slice A6 (0 + k + 1) c6).ownBlock = some ad.block := by cases A6 <;> exact e
    rcases hor6 _ h2 with h3 | h3
    · have := own_block_lt H4 h3; omega
    · omega

/-- Nothing between two blocks. -/
def Fr2 (lo hi : Nat) (A : Option Addr) (l : List Ob) : Prop := (∀ ad, A = some ad → hi ≤ ad.block) ∧ ∀ o ∈ l, 0 < o.n → ∀ ad, o.A = some ad → ad.block < lo ∨ hi ≤ ad.block
def GivesR2 (B : Nat) (L : List PO) (w : World) (e : Ending) (w' : World) : Prop := ∃ (A : Option Addr) (n c : Nat) (l : List Ob), e = .returned (.agg #[.slice A n c]) ∧ l.map Ob.po = L ∧ n = L.length ∧ Hid (Hp w' w'.heap.size A n l) ∧ Hid (Fr2 B w.heap.size A l) ∧ Below w.heap.size w w'
theorem put_done {B : Nat} {w wx wz w8 : World} {n k k2 n5 c5 c6 c8 : Nat} {A A5 A6 A8 : Option Addr} {l : List Ob} {o : Ob} {v : Value} (bwz : Below w.heap.size w wz) (hwz : wx.heap.size ≤ wz.drew.heap.size) (hwx : w.heap.size + 3 < wx.heap.size) (hs : Hp w w.heap.size A n l) (hold : ∀ o ∈ l, 0 < o.n → ∀ ad, o.A = some ad → ad.block < B) (hk : k ≤ n) (hk2 : k2 ≤ n)
    (hput : putO o.po (l.map Ob.po) = (l.map Ob.po).take k ++ [o.po] ++ (l.map Ob.po).drop k2) (hsl : Sl wz wz.heap.size 2 Val.cells A5 n5 o.s) (hlo : ∀ ad, A5 = some ad → wx.heap.size ≤ ad.block ∧ (Value.slice A6 (k + 1) c6).ownBlock ≠ some ad.block) (_hn5 : n5 = o.s.length) (hn5' : n5 ≤ 8796093021952)
    (hgo : ∀ ad, (Value.slice A6 (k + 1) c6).ownBlock = some ad → wx.heap.size ≤ ad) (hown8 : w8.ownsRow wx.heap.size 27 2 (.slice A8 (k + 1 + (n - k2)) c8) (k + 1 + (n - k2)) ((l.take k ++ [(⟨o.id, A5, n5, c5, o.s⟩ : Ob)]).flatMap Ob.cells ++ (l.drop k2).flatMap Ob.cells))
    (hgr8 : wz.drew.grownBy w8 (Value.slice A6 (k + 1) c6).ownBlock) :
    GivesR2 B (putO o.po (l.map Ob.po)) w (.returned (.agg #[.slice A8 (k + 1 + (n - k2)) c8])) ((w8.setCell ⟨w.heap.size + 3, 0, none⟩ v).setCell ⟨w.heap.size + 2, 0, none⟩ (.slice A8 (k + 1 + (n - k2)) c8)) := by
  have hl := hs.sl.len
  have hz8 := hgr8.size
  have hzd : wz.drew.heap.size = wz.heap.size := rfl
  have h8 : w8.ownsRow wx.heap.size 27 2 (.slice A8 (k + 1 + (n - k2)) c8) (k + 1 + (n - k2)) ((l.take k ++ [(⟨o.id, A5, n5, c5, o.s⟩ : Ob)] ++ l.drop k2).flatMap Ob.cells) := by
    rw [List.flatMap_append]; exact hown8
  have hne : ∀ b, b < wx.heap.size → (Value.slice A8 (k + 1 + (n - k2)) c8).ownBlock ≠ some b := fun b hb e => by have := (own_block_lt h8 e).1; omega
  have hF := own_setCell (own_setCell h8 (a := ⟨w.heap.size + 3, 0, none⟩) v (hne _ hwx)) (a := ⟨w.heap.size + 2, 0, none⟩) (.slice A8 (k + 1 + (n - k2)) c8) (hne _ (by show w.heap.size + 2 < _; omega))
  have hbd : Below w.heap.size w wz.drew := bwz.trans ((Below.drew (Below.refl _ _)).mono bwz.size)
  have hb8 : Below w.heap.size w w8 := hbd.grown hgr8 hbd.size (fun g hg => by have := hgo g hg; omega)
  have hbF : Below w.heap.size w ((w8.setCell ⟨w.heap.size + 3, 0, none⟩ v).setCell ⟨w.heap.size + 2, 0, none⟩ (.slice A8 (k + 1 + (n - k2)) c8)) := (hb8.setCell (by show _ ≤ w.heap.size + 3; omega) _).setCell (by show _ ≤ w.heap.size + 2; omega) _
  refine ⟨A8, _, c8, l.take k ++ [(⟨o.id, A5, n5, c5, o.s⟩ : Ob)] ++ l.drop k2, rfl, ?_, ?_, Lib.hid ⟨Sl.of_own Ob.size ?_ hF, fun x hx => ?_⟩, Lib.hid ⟨fun ad had => by have := own_lo h8 (Nat.le_refl _) ad had; omega, fun x hx h0 ad had => ?_⟩, hbF⟩
  · rw [hput]; simp [Ob.po]
  · rw [hput]; simp [hl]; omega
  · simp [hl]; omega
  · have old : x ∈ l → Sl _ _ 2 Val.cells x.A x.n x.s ∧ x.n ≤ 8796093021952 := fun hm => ⟨(hs.obs x hm).1.up hbF, (hs.obs x hm).2⟩
    simp only [List.mem_append, List.mem_singleton] at hx
    rcases hx with (hx | rfl) | hx
    · exact old (List.mem_of_mem_take hx)
    · refine ⟨?_, hn5'⟩
      have hd : Sl wz.drew wz.drew.heap.size 2 Val.cells A5 n5 o.s := hsl.up (Below.drew (Below.refl _ _))
      have h1 := (hd.apart (Nat.le_refl _) hgr8 (fun _ ad had e => (hlo ad had).2 e.symm)).mono hz8
      have h2 := ((h1.set (p := ⟨w.heap.size + 3, 0, none⟩) (fun ad had => by have := (hlo ad had).1; show ad.block ≠ w.heap.size + 3; omega) v).set (p := ⟨w.heap.size + 2, 0, none⟩) (fun ad had => by have := (hlo ad had).1; show ad.block ≠ w.heap.size + 2; omega) (.slice A8 (k + 1 + (n - k2)) c8))
      exact h2.mono (by simp)
    · exact old (List.mem_of_mem_drop hx)
  · simp only [List.mem_append, List.mem_singleton] at hx
    rcases hx with (hx | rfl) | hx
    · exact .inl (hold x (List.mem_of_mem_take hx) h0 ad had)
    · exact .inr (by have := (hlo ad had).1; omega)
    · exact .inl (hold x (List.mem_of_mem_drop hx) h0 ad had)

set_option maxHeartbeats 4000000 in
theorem refput_any (A : Option Addr) (n c : Nat) (l : List Ob) (o : Ob) (B : Nat) (w : World) (hs0 : Hp w B A n l) (hBw : B ≤ w.heap.size) (hnc : n ≤ c) (ho : Sl w w.heap.size 2 Val.cells o.A o.n o.s) (hn : n ≤ 4398046510976) (hm : o.n ≤ 8796093021952) :
    Calls Try.prog 16 #[.agg #[.slice A n c], .agg #[.int .i64 o.id, .slice o.A o.n o.c]] w (GivesR2 B (putO o.po (l.map Ob.po)) w) := by
  have hs := hs0.mono hBw
  have HOLD := Lib.hid (show ∀ o ∈ l, 0 < o.n → ∀ ad, o.A = some ad → ad.block < B from fun o ho h0 ad had => by
    obtain ⟨ab, ao, e, hlt, _⟩ := (hs0.obs o ho).1.at_ h0
    rw [had] at e; injection e with e; subst e; exact hlt)
  clear hs0
  obtain ⟨i0, hi0, hq0, hq1, hq2⟩ := info_parts CloneObj.infoE
  have HL := Lib.hid hs.sl.len
  have HOL := Lib.hid ho.len
  have HS := Lib.hid hs
  obtain ⟨w2, hw2⟩ : ∃ w2, w2 = (((w.alloc (.cells #[.slice A n c] 24)).alloc (.cells #[.int .i64 o.id, .slice o.A o.n o.c] 27)).alloc (.cells #[.slice none 0 0] 24)).alloc (.cells #[.slice none 0 0] 24) := ⟨_, rfl⟩
  have hb2 : Below w.heap.size w w2 := by rw [hw2]; exact (by repeat (first | (with_reducible exact (Below.refl _ _)) | (with_reducible refine Below.drew ?_) | (with_reducible refine below_drewN ?_ _) | (with_reducible refine Below.setCell ?_ ?_ _; rotate_left; (first | omega | (simp <;> omega))) | (with_reducible refine Below.alloc ?_ ?_ _; rotate_left; (first | omega | (simp <;> omega)))))
  have hz2 : w.heap.size + 4 ≤ w2.heap.size := by rw [hw2]; simp
  have HA := Lib.hid (show w2.cell? ⟨w.heap.size, 0, none⟩ = some (.slice A n c) from by rw [hw2, cell_old _ _ _ _ (by simp <;> omega), cell_old _ _ _ _ (by simp <;> omega), cell_old _ _ _ _ (by simp), cell_new _ _ _ _ _ rfl]; rfl)
  have HB0 := Lib.hid (show w2.cell? ⟨w.heap.size + 1, 0, none⟩ = some (.int .i64 o.id) from by rw [hw2, cell_old _ _ _ _ (by simp <;> omega), cell_old _ _ _ _ (by simp), cell_new _ _ _ _ _ (by simp)]; rfl)
  have HB1 := Lib.hid (show w2.cell? ⟨w.heap.size + 1, 1, none⟩ = some (.slice o.A o.n o.c) from by rw [hw2, cell_old _ _ _ _ (by simp <;> omega), cell_old _ _ _ _ (by simp), cell_new _ _ _ _ _ (by simp)]; rfl)
  have HD := Lib.hid (show w2.cell? ⟨w.heap.size + 2, 0, none⟩ = some (.slice none 0 0) from by rw [hw2, cell_old _ _ _ _ (by simp), cell_new _ _ _ _ _ (by simp)]; rfl)
  have HF := Lib.hid (show w2.frozen? ⟨w.heap.size + 2, 0, none⟩ = false from by rw [hw2, frozen_old _ _ _ _ (by simp), frozen_new _ _ _ _ _ (by simp)])
  have HE := Lib.hid (show w2.cell? ⟨w.heap.size + 3, 0, none⟩ = some (.slice none 0 0) from by rw [hw2, cell_new _ _ _ _ _ (by simp)]; rfl)
  have HG := Lib.hid (show w2.frozen? ⟨w.heap.size + 3, 0, none⟩ = false from by rw [hw2, frozen_new _ _ _ _ _ (by simp)])
  have HS2 := Lib.hid (hs.up hb2)
  have HO2 := Lib.hid (ho.up hb2)
  clear hs ho
  go_enter Try.func16, Try.ntmps16
  go_wp2_with fail
  rw [← hw2]
  have HW := Lib.hid hw2
  clear hw2
  refine (refat_any A n c l o.id w2 HS2.out.sl (by omega)).mono ?_
  rintro e w3 ⟨rfl, hb3⟩
  have hz3 := hb3.size
  have e0 : w3.cell? ⟨w.heap.size, 0, none⟩ = some (.slice A n c) := (belc hb3 (by omega)).trans HA.out
  have e1 : w3.cell? ⟨w.heap.size + 1, 0, none⟩ = some (.int .i64 o.id) := (belc hb3 (by omega)).trans HB0.out
  have bw3 : Below w.heap.size w w3 := hb2.trans (hb3.mono hb2.size)
  have S3 := Lib.hid (HS.out.sl)
  go_upto_if 14 with fail
  go_cut [6, 7] (fun s6 s7 wx => ∃ k : Nat, k ≤ n ∧ s6 = .int .i64 (idxI o.id (l.map Ob.po)) ∧ s7 = .int .i64 k ∧ Hid (PutPos o.id (l.map Ob.po) k) ∧ Below w2.heap.size w2 wx)
  case first =>
    rcases idx_cases o.id (l.map Ob.po) with ⟨hi, hno⟩ | ⟨i, x, hi, hx, hxid, hfst⟩
    · have HI := Lib.hid (show idxI o.id (l.map Ob.po) = -1 from by rw [idxI, hi])
      have HIN := Lib.hid hi
      have HNO := Lib.hid hno
      clear hi hno
      rw [HI.out]
      go_wp2_with fail
      clear e0 e1
      go_loopw [7] (fun s wr => ∃ j : Nat, j ≤ n ∧ s = .int .i64 j ∧ Hid (∀ (i : Nat) (x : Ob), i < j → l[i]? = some x → ¬ o.id < x.id) ∧ Below w2.heap.size w2 wr) (fun s _ => n - (intOf s).toNat)
      case atStart => exact ⟨0, Nat.zero_le _, rfl, Lib.hid (fun i x h => absurd h (by omega)), hb3⟩
      case round =>
        obtain ⟨j, hj, rfl, hno, hbr⟩ := hrel
        have hzr := hbr.size
        have bwr : Below w.heap.size w wr := hb2.trans (hbr.mono hb2.size)
        have e0 : wr.cell? ⟨w.heap.size, 0, none⟩ = some (.slice A n c) := (belc hbr (by omega)).trans HA.out
        have e1 : wr.cell? ⟨w.heap.size + 1, 0, none⟩ = some (.int .i64 o.id) := (belc hbr (by omega)).trans HB0.out
        by_cases hlt : j < n
        · obtain ⟨x, hx⟩ : ∃ x, l[j]? = some x := ⟨_, List.getElem?_eq_getElem (by rw [HL.out]; exact hlt)⟩
          obtain ⟨ab, ao, hAe, hlo, hat⟩ := S3.out.at_ (by omega)
          subst hAe
          have c0 : wr.cell? ⟨ab, ao + j * 2, none⟩ = some (.int .i64 x.id) := (belc bwr hlo).trans (hat j x hx 0 _ rfl)
          have hltI : (j : Int) < (n : Int) := by omega
          have HX := Lib.hid hx
          clear hat hx
          by_cases hid : x.id < o.id
          · go_wp2
            go_quiet (fail)
            go_wp2
            go_roundw
            case rel => exact ⟨j + 1, by omega, by go_num, Lib.hid (fun i y hi hy => by
              by_cases hij : i = j
              · subst hij; rw [HX.out] at hy; injection hy with hy; subst hy; omega
              · exact hno.out i y (by omega) hy), below_drewN ((by repeat (first | (with_reducible exact hbr) | (with_reducible refine Below.drew ?_) | (with_reducible refine below_drewN ?_ _) | (with_reducible refine Below.setCell ?_ ?_ _; rotate_left; (first | omega | (simp <;> omega))) | (with_reducible refine Below.alloc ?_ ?_ _; rotate_left; (first | omega | (simp <;> omega)))))) _⟩
            case measure => simp [intOf]; omega
          · have HP := Lib.hid (show PutPos o.id (l.map Ob.po) j from .inl ⟨HIN.out, gt_of (by rw [List.length_map, HL.out]; exact hj) (fun i y hi hy => by obtain ⟨z, hz, rfl⟩ := po_at' hy; exact hno.out i z hi hz) (fun y hy => by
              obtain ⟨z, hz, rfl⟩ := po_at' hy
              rw [HX.out] at hz; injection hz with hz; subst hz
              have h1 : x.po.id ≠ o.id := HNO.out j x.po (po_at HX.out)
              have h2 : x.po.id = x.id := rfl
              omega)⟩)
            go_wp2
            go_quiet (fail)
            go_wp2
            go_meet
            exact ⟨j, hj, by rw [HI.out], rfl, HP, below_drewN ((by repeat (first | (with_reducible exact hbr) | (with_reducible refine Below.drew ?_) | (with_reducible refine below_drewN ?_ _) | (with_reducible refine Below.setCell ?_ ?_ _; rotate_left; (first | omega | (simp <;> omega))) | (with_reducible refine Below.alloc ?_ ?_ _; rotate_left; (first | omega | (simp <;> omega)))))) _⟩
        · obtain rfl : j = n := by omega
          have HP := Lib.hid (show PutPos o.id (l.map Ob.po) j from .inl ⟨HIN.out, gt_of (by rw [List.length_map, HL.out]; exact Nat.le_refl _) (fun i y hi hy => by obtain ⟨z, hz, rfl⟩ := po_at' hy; exact hno.out i z hi hz) (fun y hy => by
              obtain ⟨z, hz, rfl⟩ := po_at' hy
              have := (List.getElem?_eq_some_iff.1 hz).1; have := HL.out; omega)⟩)
          go_wp2
          go_quiet (fail)
          go_wp2
          go_meet
          exact ⟨j, Nat.le_refl _, by rw [HI.out], rfl, HP, below_drewN ((by repeat (first | (with_reducible exact hbr) | (with_reducible refine Below.drew ?_) | (with_reducible refine below_drewN ?_ _) | (with_reducible refine Below.setCell ?_ ?_ _; rotate_left; (first | omega | (simp <;> omega))) | (with_reducible refine Below.alloc ?_ ?_ _; rotate_left; (first | omega | (simp <;> omega)))))) _⟩
    · have HI := Lib.hid (show idxI o.id (l.map Ob.po) = i from by rw [idxI, hi])
      have hi0 : ¬ (i : Int) < 0 := by omega
      have HP := Lib.hid (show PutPos o.id (l.map Ob.po) i from .inr hi)
      have hin : i ≤ n := by have := (List.getElem?_eq_some_iff.1 hx).1; rw [List.length_map, HL.out] at this; omega
      clear hi hx hxid hfst
      rw [HI.out]
      go_wp2
      go_meet
      exact ⟨i, hin, by rw [HI.out], rfl, HP, hb3⟩
  case rest =>
    obtain ⟨k, hk, rfl, rfl, hpos, hbx⟩ := hcut
    rename World => wx
    clear e0 e1
    have hzx := hbx.size
    have bwx : Below w.heap.size w wx := hb2.trans (hbx.mono hb2.size)
    have hkc : k ≤ c := by omega
    have hsl : ∀ w', (Instr.slice 22 (.slice A n c) none (some (.int .i64 (k : Int))) none).run Try.prog w' = .ok (.slice A k c) w' := slice_high Try.underlying22 hi0 hkc
    have x0 : wx.cell? ⟨w.heap.size, 0, none⟩ = some (.slice A n c) := (belc hbx (by omega)).trans HA.out
    have x1 : wx.cell? ⟨w.heap.size + 1, 0, none⟩ = some (.int .i64 o.id) := (belc hbx (by omega)).trans HB0.out
    have x2 : wx.cell? ⟨w.heap.size + 1, 1, none⟩ = some (.slice o.A o.n o.c) := (belc hbx (by omega)).trans HB1.out
    have x5 : wx.cell? ⟨w.heap.size + 3, 0, none⟩ = some (.slice none 0 0) := (belc hbx (by omega)).trans HE.out
    have f5 : wx.frozen? ⟨w.heap.size + 3, 0, none⟩ = false := (belf hbx (by omega)).trans HG.out
    have l0 : w.heap.size < wx.heap.size := by omega
    have l1 : w.heap.size + 1 < wx.heap.size := by omega
    have l3 : w.heap.size + 3 < wx.heap.size := by omega
    have HSK := Lib.hid (((HS2.out.sl.take hk).up (hbx.trans (Below.drew (Below.refl _ _))) : Sl wx.drew wx.drew.heap.size 2 Ob.cells A k (l.take k)).src Ob.size)
    have HO3 := Lib.hid (HO2.out.up hbx)
    go_wp2_with fail
    go_cut [34] (fun _ wz => Mid wx (w.heap.size + 3) k o l wz)
    case first =>
      go_region_law (first
          | (refine step_append_any rfl (.tmp 34) (.tmp 38) 22 rfl wx.heap.size 27 i0 _ 2 32 Try.underlying22 hi0 hq0 hq1 hq2 rfl (by decide) (.slice none 0 0) 0 [] (by simp [Act.eval, Act.put]) (World.ownsRow_nil _ _ _ _) A k c ((l.take k).flatMap Ob.cells) (by simp [Act.eval, Act.put]) HSK.out.1 (by rw [flat_len Ob.size, List.length_take, HL.out, Nat.min_eq_left hk]) HSK.out.2 (ob_one _) (by unfold maxLen; omega) (by omega) (Nat.le_refl _) ?_; intro A4 c4 w4 hown4 hgr4 hA4; have hb4 : Below wx.heap.size wx w4 := (Below.drew (Below.refl _ _)).grown hgr4 (Nat.le_refl _) (fun k hk => by cases hk); have p0 := (belc hb4 l0).trans x0; have p1 := (belc hb4 l1).trans x1; have p2 := (belc hb4 l1).trans x2; have p5 := (belc hb4 l3).trans x5; have g5 := (belf hb4 l3).trans f5; have hz4 := hb4.size; have O4 := Lib.hid (HO3.out.up hb4); have H4 := Lib.hid hown4; clear hown4 hgr4 hA4)
          | (go_simp; go_at_call 26; refine (object_any o w4 O4.out hm).mono ?_; rintro e Y ⟨A5, n5, c5, rfl, hown5, hn5, hbY⟩; rw [show o.po.id = o.id from rfl]; have hzY := hbY.size; have r0 := (belc hbY (by omega)).trans p0; have r1 := (belc hbY (by omega)).trans p1; have r2 := (belc hbY (by omega)).trans p2; have r5 := (belc hbY (by omega)).trans p5; have k5 := (belf hbY (by omega)).trans g5; have HN5 := Lib.hid hn5; clear hn5; have hYA : Below Y.heap.size Y (Y.alloc (.cells #[.int .i64 o.id, .slice A5 n5 c5] 27)) := (Below.refl _ _).alloc (Nat.le_refl _) _; have hzYA : (Y.alloc (.cells #[.int .i64 o.id, .slice A5 n5 c5] 27)).heap.size = Y.heap.size + 1 := (by simp); have H4Y := Lib.hid (own_below (own_below H4.out hbY) hYA))
          | (refine step_append_any rfl (.tmp 39) (.tmp 42) 22 rfl wx.heap.size 27 i0 _ 2 32 Try.underlying22 hi0 hq0 hq1 hq2 rfl (by decide) (.slice A4 (0 + k) c4) (0 + k) ([] ++ (l.take k).flatMap Ob.cells) (by simp [Act.eval, Act.put]) H4Y.out (some ⟨Y.heap.size, 0, none⟩) 1 1 (Ob.cells ⟨o.id, A5, n5, c5, o.s⟩) (by simp [Act.eval, Act.put]) (by intro h; cases h) rfl (fun ad h j' u hu => by injection h with h; subst h; rw [Addr.add_lit, cell_new _ _ _ _ _ rfl, Nat.zero_add, ← Array.getElem?_toList]; exact hu) (by simp [Ob.cells, Value.oneCell']) (by unfold maxLen; omega) (by omega) (by rw [hzYA]; omega) ?_; intro A6 c6 w6 hown6 hgr6 hor6; have hb6 : Below wx.heap.size wx w6 := ((hb4.trans (hbY.mono hz4)).trans (hYA.mono (by omega))).grown hgr6 (by rw [hzYA]; omega) (fun g hg => (own_block_lt H4.out hg).1); have t5 := (belc hb6 l3).trans x5; have s5 := (belf hb6 l3).trans f5))
      all_goals
        go_wp2
        go_meet
        exact mid_intro hb4 H4.out hbY hown5.out HN5.out hown6 hgr6 hor6
    case rest =>
      rename World => wz
      obtain ⟨A6, c6, A5, n5, c5, w6, hwz, hb6, hrow6, hsl6, hn5, hlo5⟩ := hcut
      have hz6 := hb6.size
      have hgo : ∀ ad, (Value.slice A6 (k + 1) c6).ownBlock = some ad → wx.heap.size ≤ ad := fun ad h => (own_block_lt hrow6.out h).1
      have h36 : (Value.slice A6 (k + 1) c6).ownBlock ≠ some (w.heap.size + 3) := fun h => by have := hgo _ h; omega
      have hgz : w6.grownBy wz (some (w.heap.size + 3)) := by rw [hwz]; exact grown1 w6 ⟨w.heap.size + 3, 0, none⟩ _
      have hzz : w6.heap.size ≤ wz.heap.size := hgz.size
      have y5 : w6.cell? ⟨w.heap.size + 3, 0, none⟩ = some (.slice none 0 0) := (belc hb6 l3).trans x5
      have z5 : wz.cell? ⟨w.heap.size + 3, 0, none⟩ = some (.slice A6 (k + 1) c6) := by rw [hwz]; exact World.cell?_setCell_same _ _ _ y5
      have g5 : wz.frozen? ⟨w.heap.size + 3, 0, none⟩ = false := by rw [hwz, World.frozen?_setCell]; exact (belf hb6 l3).trans f5
      have z0 : wz.cell? ⟨w.heap.size, 0, none⟩ = some (.slice A n c) := by rw [hwz, set_other _ _ _ _ (by intro e; injection e with e1 e2; omega)]; exact (belc hb6 l0).trans x0
      have z4 : wz.cell? ⟨w.heap.size + 2, 0, none⟩ = some (.slice none 0 0) := by rw [hwz, set_other _ _ _ _ (by intro e; injection e with e1 e2; omega)]; exact (belc hb6 (by omega)).trans ((belc hbx (by omega)).trans HD.out)
      have g4 : wz.frozen? ⟨w.heap.size + 2, 0, none⟩ = false := by rw [hwz, World.frozen?_setCell]; exact (belf hb6 (by omega)).trans ((belf hbx (by omega)).trans HF.out)
      have ROWz := Lib.hid (show wz.ownsRow wx.heap.size 27 2 (.slice A6 (k + 1) c6) (k + 1) _ from by rw [hwz]; exact own_setCell hrow6.out _ h36)
      have SLz := Lib.hid (show Sl wz wz.heap.size 2 Val.cells A5 n5 o.s from (hsl6.out.apart (Nat.le_refl _) hgz (fun _ ad had e => by have := (hlo5.out ad had).1; injection e with e; omega)).mono hzz)
      have bwz : Below w.heap.size w wz := by rw [hwz]; exact (bwx.trans (hb6.mono bwx.size)).setCell (by show _ ≤ w.heap.size + 3; omega) _
      have lz0 : w.heap.size < wz.heap.size := by omega
      have lz2 : w.heap.size + 2 < wz.heap.size := by omega
      have lz3 : w.heap.size + 3 < wz.heap.size := by omega
      have hkl : k ≤ l.length := by rw [HL.out]; exact hk
      obtain ⟨k2, hk2⟩ : ∃ k2 : Nat, k2 = if idxI o.id (l.map Ob.po) < 0 then k else k + 1 := ⟨_, rfl⟩
      have hk2n : k2 ≤ n := by
        rw [hk2]; split
        · exact hk
        · rename_i hneg
          rcases hpos.out with ⟨h1, _⟩ | h1
          · exact absurd (show idxI o.id (l.map Ob.po) < 0 by rw [idxI, h1]; decide) hneg
          · rcases idx_cases o.id (l.map Ob.po) with ⟨h2, _⟩ | ⟨i, x, h2, hx, _, _⟩
            · rw [h2] at h1; cases h1
            · rw [h2] at h1; injection h1 with h1; subst h1
              have := (List.getElem?_eq_some_iff.1 hx).1; rw [List.length_map, HL.out] at this; omega
      have hkk2 : k ≤ k2 := by rw [hk2]; split <;> omega
      have PUT := Lib.hid (show putO o.po (l.map Ob.po) = (l.map Ob.po).take k ++ [o.po] ++ (l.map Ob.po).drop k2 from by rw [hk2]; exact putO_pos hpos.out (by rw [List.length_map]; exact hkl))
      have HWZ := Lib.hid hwz
      clear hwz hsl x0 x1 x2 x5 f5 y5
      go_upto_if 46 with fail
      go_cut [7] (fun s wq => s = .int .i64 (k2 : Int) ∧ wq = wz)
      case first =>
        by_cases hneg : idxI o.id (l.map Ob.po) < 0
        · rw [if_pos hneg] at hk2
          go_wp2
          go_meet
          exact ⟨by rw [hk2], rfl⟩
        · rw [if_neg hneg] at hk2
          go_wp2
          go_meet
          refine ⟨?_, rfl⟩
          rw [hk2]
          go_num
      case rest =>
        obtain ⟨rfl, rfl⟩ := hcut
        rename World => wz
        have hsl2 : ∀ w', (Instr.slice 22 (.slice A n c) (some (.int .i64 (k2 : Int))) none none).run Try.prog w' = .ok (.slice (cutA A c k2 2) (n - k2) (c - k2)) w' := fun w' => by rw [slice_low Try.underlying22 hi0 hk2n, hq1]
        have HSL := Lib.hid ((Sl.src_low (k := k2) (HS.out.sl.up (bwz.trans (Below.drew (Below.refl _ _))) : Sl wz.drew wz.drew.heap.size 2 Ob.cells A n l) Ob.size hnc : (cutA A c k2 2 = none → n - k2 = 0) ∧ ∀ ad, cutA A c k2 2 = some ad → ∀ (j : Nat) (u : Value), ((l.drop k2).flatMap Ob.cells)[j]? = some u → wz.drew.cell? (ad.add j) = some u))
        have HRD := Lib.hid (own_below ROWz.out (Below.drew (Below.refl wz.heap.size wz)))
        clear hk2
        go_wp2_with fail
        go_region_law (first
          | (refine step_append_any rfl (.tmp 50) (.tmp 54) 22 rfl wx.heap.size 27 i0 _ 2 32 Try.underlying22 hi0 hq0 hq1 hq2 rfl (by decide) (.slice A6 (k + 1) c6) (k + 1) ((l.take k ++ [(⟨o.id, A5, n5, c5, o.s⟩ : Ob)]).flatMap Ob.cells) (by simp [Act.eval, Act.put]) HRD.out (cutA A c k2 2) (n - k2) (c - k2) ((l.drop k2).flatMap Ob.cells) (by simp [Act.eval, Act.put]) HSL.out.1 (by rw [flat_len Ob.size, List.length_drop, HL.out]) HSL.out.2 (ob_one _) (by unfold maxLen; omega) (by omega) (by show wx.heap.size ≤ wz.heap.size; omega) ?_; intro A8 c8 w8 hown8 hgr8 hor8; have t5 := ((gcell hgr8).1 (w.heap.size + 3) 0 (by show _ < wz.heap.size; omega) (fun e => by have := hgo _ e.symm; omega)).trans z5; have s5 := ((gcell hgr8).2 (w.heap.size + 3) 0 (by show _ < wz.heap.size; omega) (fun e => by have := hgo _ e.symm; omega)).trans g5; have t4 := ((gcell hgr8).1 (w.heap.size + 2) 0 (by show _ < wz.heap.size; omega) (fun e => by have := hgo _ e.symm; omega)).trans z4; have s4 := ((gcell hgr8).2 (w.heap.size + 2) 0 (by show _ < wz.heap.size; omega) (fun e => by have := hgo _ e.symm; omega)).trans g4))
        all_goals
          go_wp2
          refine bodyPost_ret (v := .agg #[.slice A8 (k + 1 + (n - k2)) c8]) (by simp [results, Try.results16, go_sem, t4, t5]) rfl ?_
          exact put_done bwz (show wx.heap.size ≤ wz.drew.heap.size from by show _ ≤ wz.heap.size; omega) (by omega) HS.out HOLD.out hk hk2n PUT.out SLz.out hlo5.out hn5 (by have := HOL.out; omega) hgo hown8 hgr8
end Go.Proofs.Ytohflngcgmcllaa
