/- A copy of a whole heap. -/
import Derived.Test.YtohflngcgmcllaaB
namespace Go.Proofs.Ytohflngcgmcllaa
open Go.RowKit

/-- An object whose fields lie in memory of their own, at or above block lo. -/
structure Cp (w : World) (lo : Nat) (x : Ob) : Prop where
  sl : Sl w w.heap.size 2 Val.cells x.A x.n x.s
  own : 0 < x.n → ∃ f, x.A = some ⟨f, 0, none⟩ ∧ lo ≤ f ∧ ∀ j, w.frozen? ⟨f, j, none⟩ = false
theorem Cp.apart {w w' : World} {lo : Nat} {x : Ob} {row : Option Nat} (h : Cp w lo x) (hg : w.grownBy w' row) (hr : ∀ k, row = some k → k < lo) : Cp w' lo x := by
  refine ⟨(h.sl.apart (Nat.le_refl _) hg (fun hn ad had e => ?_)).mono hg.size, fun hn => ?_⟩
  · obtain ⟨f, hf, hlo, _⟩ := h.own hn
    rw [had] at hf; injection hf with hf; subst hf
    have := hr f e.symm
    omega
  · obtain ⟨f, hf, hlo, hz⟩ := h.own hn
    refine ⟨f, hf, hlo, fun j => ?_⟩
    obtain ⟨ab, ao, e, hlt, _⟩ := h.sl.at_ hn
    rw [hf] at e; injection e with e; injection e with e1 e2; subst e1
    exact ((gcell hg).2 f j hlt (fun e => by have := hr f e.symm; omega)).trans (hz j)
/-- The block of a slice. -/
def blkO : Option Addr → Option Nat
  | some ad => some ad.block
  | none => none
/-- The fields of the first k objects lie apart. -/
def Dist (l : List Ob) (k : Nat) : Prop := ∀ (i j : Nat) (x y : Ob), i < j → j < k → l[i]? = some x → l[j]? = some y → 0 < x.n → 0 < y.n → ∀ a b, x.A = some a → y.A = some b → a.block ≠ b.block
/-- A heap of a call's own: row of objects, and fields that lie apart, at or above block lo. -/
structure HpOwn (w : World) (base lo : Nat) (A : Option Addr) (n c : Nat) (l : List Ob) : Prop where
  row : w.ownsRow base 27 2 (.slice A n c) n (l.flatMap Ob.cells)
  len : l.length = n
  cps : ∀ o ∈ l, Cp w lo o
  few : ∀ o ∈ l, o.n ≤ 8796093021952
  dist : Dist l n
  low : ∀ ad, A = some ad → ad.block < lo
theorem HpOwn.hp {w : World} {base lo n c : Nat} {A : Option Addr} {l : List Ob} (h : HpOwn w base lo A n c l) : Hp w w.heap.size A n l :=
  ⟨Sl.of_own Ob.size h.len h.row, fun o ho => ⟨(h.cps o ho).sl, h.few o ho⟩⟩
/-- What a call leaves that gives a heap of its own. -/
def GivesH (L : List PO) (w : World) (e : Ending) (w' : World) : Prop := ∃ (A : Option Addr) (n c lo : Nat) (l : List Ob), e = .returned (.agg #[.slice A n c]) ∧ l.map Ob.po = L ∧ n = L.length ∧ w.heap.size ≤ lo ∧ Hid (HpOwn w' w.heap.size lo A n c l) ∧ Below w.heap.size w w'

/-- A heap's memory lies at or above block lo. -/
def Fr (lo : Nat) (A : Option Addr) (l : List Ob) : Prop := (∀ ad, A = some ad → lo ≤ ad.block) ∧ ∀ o ∈ l, 0 < o.n → ∀ ad, o.A = some ad → lo ≤ ad.block
theorem Fr.zero {A : Option Addr} {l : List Ob} : Fr 0 A l := ⟨fun _ _ => Nat.zero_le _, fun _ _ _ _ _ => Nat.zero_le _⟩
theorem Fr.nil {lo : Nat} : Fr lo none [] := ⟨(fun _ h => by cases h), fun _ h => by simp at h⟩
theorem HpOwn.fr {w : World} {base lo n c k : Nat} {A : Option Addr} {l : List Ob} (h : HpOwn w base lo A n c l) (h1 : k ≤ base) (h2 : k ≤ lo) : Fr k A l :=
  ⟨fun ad had => by have := own_lo h.row (Nat.le_refl _) ad had; omega, fun o ho h0 ad had => by
    obtain ⟨f, hf, hlo, _⟩ := (h.cps o ho).own h0
    rw [had] at hf; injection hf with hf; subst hf
    show k ≤ f; omega⟩
/-- What a call leaves that gives a heap to be read. -/
def GivesR (lo : Nat) (L : List PO) (w : World) (e : Ending) (w' : World) : Prop := ∃ (A : Option Addr) (n c : Nat) (l : List Ob), e = .returned (.agg #[.slice A n c]) ∧ l.map Ob.po = L ∧ n = L.length ∧ Hid (Hp w' w'.heap.size A n l) ∧ Hid (Fr lo A l) ∧ Below w.heap.size w w'
theorem ins_po {l : List Ob} {x : Ob} {i : Nat} : (l.take i ++ [x] ++ l.drop i).map Ob.po = (l.map Ob.po).take i ++ [x.po] ++ (l.map Ob.po).drop i := by simp

set_option maxHeartbeats 4000000 in
theorem all_any (A : Option Addr) (n c : Nat) (l : List Ob) (w : World) (hs : Hp w w.heap.size A n l) (hn : n ≤ 4398046510976) :
    Calls Try.prog 27 #[.agg #[.slice A n c]] w (GivesH (l.map Ob.po) w) := by
  have HO := Lib.hid hs.obs
  have HL := Lib.hid hs.sl.len
  obtain ⟨w2, hw2⟩ : ∃ w2, w2 = (w.alloc (.cells #[.slice A n c] 24)).alloc (.cells #[.slice none 0 0] 24) := ⟨_, rfl⟩
  have hb2 : Below w.heap.size w w2 := by rw [hw2]; exact (by repeat (first | (with_reducible exact (Below.refl _ _)) | (with_reducible refine Below.drew ?_) | (with_reducible refine below_drewN ?_ _) | (with_reducible refine Below.setCell ?_ ?_ _; rotate_left; (first | omega | (simp <;> omega))) | (with_reducible refine Below.alloc ?_ ?_ _; rotate_left; (first | omega | (simp <;> omega)))))
  have hz2 : w2.heap.size = w.heap.size + 2 := by rw [hw2]; simp
  have HD0 := Lib.hid (show w2.cell? ⟨w.heap.size + 1, 0, none⟩ = some (.slice none 0 0) from by rw [hw2, cell_new _ _ _ _ _ (by simp)]; rfl)
  have HF0 := Lib.hid (show w2.frozen? ⟨w.heap.size + 1, 0, none⟩ = false from by rw [hw2, frozen_new _ _ _ _ _ (by simp)])
  have HS2 := Lib.hid (hs.sl.up hb2)
  go_enter Try.func27, Try.ntmps27
  go_wp2_with fail
  rw [← hw2]
  have HW := Lib.hid hw2
  clear hw2
  refine (CloneObj.recs A n c l w2 HS2.out (by omega)).mono ?_
  rintro e w3 ⟨A3, c3, rfl, hown3, hs3, hb3, hg3⟩
  have hb3' : Below w.heap.size w w3 := hb2.trans (hb3.mono hb2.size)
  obtain ⟨W, hW⟩ : ∃ W, W = w3.alloc (.cells #[.slice A3 n c3] 24) := ⟨_, rfl⟩
  have hbW : Below w3.heap.size w3 W := by rw [hW]; exact (by repeat (first | (with_reducible exact (Below.refl _ _)) | (with_reducible refine Below.drew ?_) | (with_reducible refine below_drewN ?_ _) | (with_reducible refine Below.setCell ?_ ?_ _; rotate_left; (first | omega | (simp <;> omega))) | (with_reducible refine Below.alloc ?_ ?_ _; rotate_left; (first | omega | (simp <;> omega)))))
  have hzW : W.heap.size = w3.heap.size + 1 := by rw [hW]; simp
  have HCW := Lib.hid (show W.cell? ⟨w3.heap.size, 0, none⟩ = some (.slice A3 n c3) from by rw [hW, cell_new _ _ _ _ _ rfl]; rfl)
  have HOW := Lib.hid (own_mono (own_below hown3 hbW) hb2.size)
  have HEW := Lib.hid ((belc hbW (by have := hb3.size; omega)).trans ((belc hb3 (by omega)).trans HD0.out))
  have HFW := Lib.hid ((belf hbW (by have := hb3.size; omega)).trans ((belf hb3 (by omega)).trans HF0.out))
  have hbW' : Below w.heap.size w W := hb3'.trans (hbW.mono hb3'.size)
  have HRW := Lib.hid (show ∀ g, blkO A3 = some g → w.heap.size + 2 ≤ g ∧ g < w3.heap.size from fun g hg => by
    cases A3 with
    | none => cases hg
    | some ad =>
      injection hg with hg
      have := own_lo hown3 (Nat.le_refl _) ad rfl
      rcases hown3.2 with ⟨h', _⟩ | ⟨g', cap, cur, h', hr, hh, _⟩
      · cases h'
      · injection h' with h1; injection h1 with h1
        subst h1
        have hlt : g' < w3.heap.size := by
          rcases Nat.lt_or_ge g' w3.heap.size with h2 | h2
          · exact h2
          · rw [Array.getElem?_eq_none h2] at hh; cases hh
        have hg'' : g' = g := hg
        omega)
  clear hown3 hs3 hg3
  go_wp2_with fail
  rw [← hW]
  have HWW := Lib.hid hW
  clear hW
  go_loopw [13] (fun i wr => ∃ (k : Nat) (l' : List Ob), k ≤ n ∧ i = .int .i64 k ∧ Hid (l'.map Ob.po = l.map Ob.po) ∧ Hid (l'.length = n) ∧ Hid (∀ (i : Nat) (x : Ob), i < k → l'[i]? = some x → Cp wr W.heap.size x) ∧ Hid (∀ (i : Nat) (x : Ob), k ≤ i → l'[i]? = some x → l[i]? = some x) ∧ Hid (∀ o ∈ l', o.n ≤ 8796093021952) ∧ Hid (Dist l' k) ∧ Hid (wr.ownsRow w.heap.size 27 2 (.slice A3 n c3) n (l'.flatMap Ob.cells)) ∧ Hid (W.grownBy wr (blkO A3))) (fun i _ => n - (intOf i).toNat)
  case atStart => exact ⟨0, l, Nat.zero_le _, rfl, Lib.hid rfl, HL, Lib.hid (fun i x h => absurd h (by omega)), Lib.hid (fun i x _ h => h), Lib.hid (fun o ho => (HO.out o ho).2), Lib.hid (fun i j x y _ h => absurd h (by omega)), HOW, Lib.hid (World.grownBy.refl _ _)⟩
  case round =>
    obtain ⟨k, l', hk, rfl, hpo, hlen, hcp, hold, hfew, hdist, hrow, hgr⟩ := hrel
    have hzr := hgr.out.size
    have hW0 : w3.heap.size < W.heap.size := by omega
    have hz3 := hb3.size
    have hrw : ∀ k, blkO A3 = some k → k < W.heap.size := fun k hk => by have := HRW.out k hk; omega
    have hbl3 : some w3.heap.size ≠ blkO A3 := fun e => by have := (HRW.out _ e.symm).2; omega
    have hblr : some (w.heap.size + 1) ≠ blkO A3 := fun e => by have := (HRW.out _ e.symm).1; omega
    have e0 : wr.cell? ⟨w3.heap.size, 0, none⟩ = some (.slice A3 n c3) := ((gcell hgr.out).1 _ _ hW0 hbl3).trans HCW.out
    have hbwr : Below w.heap.size w wr := hbW'.grown hgr.out (by omega) (fun k hk => by have := (HRW.out k hk).1; omega)
    by_cases hlt : k < n
    · obtain ⟨x, hx'⟩ : ∃ x, l'[k]? = some x := ⟨_, List.getElem?_eq_getElem (by rw [hlen.out]; exact hlt)⟩
      have hx := hold.out k x (Nat.le_refl _) hx'
      obtain ⟨o1, o2⟩ := HO.out x (List.mem_of_getElem? hx)
      obtain ⟨g, rfl, hg0, hg1, hfz⟩ := own_at0 hrow.out (by omega)
      have hg2 : w.heap.size + 2 ≤ g ∧ g < w3.heap.size := HRW.out g rfl
      have hrs := Sl.of_own Ob.size hlen.out hrow.out
      have c0 : wr.cell? ⟨g, k * 2, none⟩ = some (.int .i64 x.id) := by have := sl_at hrs hx' (j := 0) rfl; rwa [Nat.zero_add] at this
      have c1 : wr.cell? ⟨g, k * 2 + 1, none⟩ = some (.slice x.A x.n x.c) := by have := sl_at hrs hx' (j := 1) rfl; rwa [Nat.zero_add] at this
      have f0 := hfz (k * 2)
      have f1 := hfz (k * 2 + 1)
      obtain ⟨X, hX⟩ : ∃ X, X = wr.alloc (.cells #[.int .i64 x.id, .slice x.A x.n x.c] 27) := ⟨_, rfl⟩
      have hbX : Below wr.heap.size wr X := by rw [hX]; exact (by repeat (first | (with_reducible exact (Below.refl _ _)) | (with_reducible refine Below.drew ?_) | (with_reducible refine below_drewN ?_ _) | (with_reducible refine Below.setCell ?_ ?_ _; rotate_left; (first | omega | (simp <;> omega))) | (with_reducible refine Below.alloc ?_ ?_ _; rotate_left; (first | omega | (simp <;> omega)))))
      have hzX : X.heap.size = wr.heap.size + 1 := by rw [hX]; simp
      have x0 : X.cell? ⟨wr.heap.size, 0, none⟩ = some (.int .i64 x.id) := by rw [hX, cell_new _ _ _ _ _ rfl]; rfl
      have x1 : X.cell? ⟨wr.heap.size, 1, none⟩ = some (.slice x.A x.n x.c) := by rw [hX, cell_new _ _ _ _ _ rfl]; rfl
      have e1 : X.cell? ⟨w3.heap.size, 0, none⟩ = some (.slice (some ⟨g, 0, none⟩) n c3) := (belc hbX (by omega)).trans e0
      have OX := Lib.hid (o1.up ((hbwr.trans (hbX.mono hbwr.size)).trans (Below.drew (Below.refl _ _))) : Sl X.drew X.drew.heap.size 2 Val.cells x.A x.n x.s)
      have C0 := Lib.hid ((belc hbX hg1).trans c0)
      have C1 := Lib.hid ((belc hbX hg1).trans c1)
      have F0 := Lib.hid ((belf hbX hg1).trans f0)
      have F1 := Lib.hid ((belf hbX hg1).trans f1)
      have hw3X : w3.heap.size < X.heap.size := by omega
      have hgX : g < X.heap.size := by omega
      have hbxX : wr.heap.size < X.heap.size := by omega
      have hne1 : w3.heap.size ≠ g := by omega
      have hne2 : wr.heap.size ≠ g := by omega
      have HXE := Lib.hid hx'
      have HXL := Lib.hid hx
      have hltI : (k : Int) < (n : Int) := by omega
      clear hrs hx hx' o1 hfz
      go_wp2_with fail
      rw [← hX]
      have HXX := Lib.hid hX
      clear hX
      go_region_held3 (fun w' => w'.cell? ⟨w3.heap.size, 0, none⟩ = some (.slice (some ⟨g, 0, none⟩) n c3) ∧ w'.cell? ⟨wr.heap.size, 0, none⟩ = some (.int .i64 x.id) ∧ w'.cell? ⟨wr.heap.size, 1, none⟩ = some (.slice x.A x.n x.c))
        (first | exact ⟨e1, x0, x1⟩ | exact ⟨p1, p2, p3⟩ | exact ⟨by rw [set_other _ _ _ _ (by simp), set_other _ _ _ _ (by simp)]; exact p1, by rw [set_other _ _ _ _ (by simp), set_other _ _ _ _ (by simp)]; exact p2, by rw [set_other _ _ _ _ (by simp), set_other _ _ _ _ (by simp)]; exact p3⟩)
        (first
          | (go_at_call 24; refine (copied_any x X.drew OX.out o2).mono ?_; rintro e Y ⟨A5, n5, c5, rfl, hown5, hn5, hb5⟩; have hb5 : Below X.heap.size X Y := (Below.drew (Below.refl _ _)).trans hb5; have p1 := (belc hb5 hw3X).trans e1; have p2 := (belc hb5 hbxX).trans x0; have p3 := (belc hb5 hbxX).trans x1; have q0 := (belc hb5 hgX).trans C0.out; have q1 := (belc hb5 hgX).trans C1.out; have r0 := (belf hb5 hgX).trans F0.out; have r1 := (belf hb5 hgX).trans F1.out; have HN5 := Lib.hid hn5; clear hn5))
      all_goals
        go_wp2
        go_roundw
        case rel =>
          have hbY : Below wr.heap.size wr Y := hbX.trans (hb5.mono hbX.size)
          have hgZ : wr.grownBy ((Y.setCell ⟨g, k * 2, none⟩ (.int .i64 x.id)).setCell ⟨g, k * 2 + 1, none⟩ (.slice A5 n5 c5)) (some g) := (grown_of_below hbY _).trans (grown2 Y g _ _ _ _)
          have hzD : X.drew.heap.size = X.heap.size := rfl
          have hob : ∀ p : Addr, p.block = g → (Value.slice A5 n5 c5).ownBlock ≠ some p.block := fun p hp h => by
            have := (own_block_lt hown5.out h).1
            omega
          have hownZ := own_setCell (own_setCell hown5.out (.int .i64 x.id) (hob ⟨g, k * 2, none⟩ rfl)) (.slice A5 n5 c5) (hob ⟨g, k * 2 + 1, none⟩ rfl)
          have hn5 : n5 = x.s.length := HN5.out
          have hxs : x.s.length = x.n := (HO.out x (List.mem_of_getElem? HXL.out)).1.len
          have hset : ∀ (i : Nat) (y : Ob), (l'.set k ⟨x.id, A5, n5, c5, x.s⟩)[i]? = some y → (i = k ∧ y = ⟨x.id, A5, n5, c5, x.s⟩) ∨ (i ≠ k ∧ l'[i]? = some y) := fun i y hy => by
            rw [List.getElem?_set] at hy
            by_cases hik : k = i
            · rw [if_pos hik, if_pos (by rw [hlen.out]; exact hlt)] at hy
              injection hy with hy
              exact .inl ⟨hik.symm, hy.symm⟩
            · rw [if_neg hik] at hy
              exact .inr ⟨fun h => hik h.symm, hy⟩
          have hlo5 : ∀ a, A5 = some a → X.heap.size ≤ a.block := own_lo hown5.out (Nat.le_refl _)
          refine ⟨k + 1, l'.set k ⟨x.id, A5, n5, c5, x.s⟩, by omega, by go_num, Lib.hid ?_, Lib.hid ?_, Lib.hid ?_, Lib.hid ?_, Lib.hid ?_, Lib.hid ?_, Lib.hid ?_, Lib.hid ?_⟩
          · rw [← hpo.out]
            apply List.ext_getElem?
            intro i
            rw [List.map_set, List.getElem?_set]
            by_cases hik : k = i
            · subst hik
              rw [if_pos rfl, if_pos (by rw [List.length_map, hlen.out]; exact hlt), List.getElem?_map, HXE.out]
              rfl
            · rw [if_neg hik]
          · rw [List.length_set]; exact hlen.out
          · intro i y hi hy
            rcases hset i y hy with ⟨rfl, rfl⟩ | ⟨hne, hy'⟩
            · refine ⟨Sl.of_own Val.size hn5.symm hownZ, fun h0 => ?_⟩
              obtain ⟨f, hf, hlo, _, hz⟩ := own_at0 hownZ h0
              exact ⟨f, hf, by omega, hz⟩
            · exact (hcp.out i y (by omega) hy').apart hgZ (fun q hq => by injection hq with hq; omega)
          · intro i y hi hy
            rcases hset i y hy with ⟨rfl, rfl⟩ | ⟨hne, hy'⟩
            · omega
            · exact hold.out i y (by omega) hy'
          · intro o ho
            rcases List.mem_or_eq_of_mem_set ho with h | h
            · exact hfew.out o h
            · subst h; show n5 ≤ 8796093021952; omega
          · intro i j y z hij hj hy hz hy0 hz0 a b ha hb'
            rcases hset i y hy with ⟨rfl, rfl⟩ | ⟨hne, hy'⟩
            · rcases hset j z hz with ⟨rfl, rfl⟩ | ⟨hne', hz'⟩ <;> omega
            · rcases hset j z hz with ⟨rfl, rfl⟩ | ⟨hne', hz'⟩
              · have := hlo5 b hb'
                obtain ⟨ab, ao, e, hlt', _⟩ := (hcp.out i y (by omega) hy').sl.at_ hy0
                rw [ha] at e; injection e with e; subst e
                show ab ≠ _
                omega
              · exact hdist.out i j y z hij (by omega) hy' hz' hy0 hz0 a b ha hb'
          · exact own_put2 Ob.size (own_below hrow.out hbY) hlen.out hlt ⟨x.id, A5, n5, c5, x.s⟩ _ _ rfl
          · exact hgr.out.trans hgZ
        case measure => simp [intOf]; omega
    · obtain rfl : k = n := by omega
      have r0 : wr.cell? ⟨w.heap.size + 1, 0, none⟩ = some (.slice none 0 0) := ((gcell hgr.out).1 _ _ (by omega) hblr).trans HEW.out
      have r1 : wr.frozen? ⟨w.heap.size + 1, 0, none⟩ = false := ((gcell hgr.out).2 _ _ (by omega) hblr).trans HFW.out
      go_wp2
      refine bodyPost_ret (v := .agg #[.slice A3 k c3]) (by simp [results, Try.results27, go_sem, r0]) rfl ?_
      have hg : wr.grownBy (wr.setCell ⟨w.heap.size + 1, 0, none⟩ (.slice A3 k c3)) (some (w.heap.size + 1)) := grown1 wr ⟨w.heap.size + 1, 0, none⟩ _
      refine ⟨A3, k, c3, W.heap.size, l', rfl, hpo.out, by rw [List.length_map]; exact HL.out.symm, by omega, Lib.hid ⟨own_setCell hrow.out _ (fun e => hblr (by cases A3 with | none => simp [Value.ownBlock] at e | some ad => rw [← e]; rfl)), hlen.out, fun o ho => ?_, hfew.out, hdist.out, fun ad had => ?_⟩, hbwr.setCell (by simp) _⟩
      · obtain ⟨i, hi⟩ := List.getElem?_of_mem ho
        have hik : i < k := by rw [← hlen.out]; exact (List.getElem?_eq_some_iff.1 hi).1
        exact (hcp.out i o hik hi).apart hg (fun q hq => by injection hq with hq; omega)
      · exact hrw _ (by rw [had]; rfl)
end Go.Proofs.Ytohflngcgmcllaa
