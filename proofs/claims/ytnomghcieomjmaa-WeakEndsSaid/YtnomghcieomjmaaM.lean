/- A state that shares nothing. -/
import Derived.Test.YtnomghcieomjmaaCloneTR
import Derived.Test.YtnomghcieomjmaaCloneWR
import Derived.Deep.RegionHeld3
namespace Go.Proofs.Ytnomghcieomjmaa
open Go.RowKit

/-- A state's threads that a call owns. -/
structure OwnSt (w : World) (B g : Nat) (ts : List Tr) : Prop where
  lt : g < w.heap.size
  lo : B ≤ g
  at_ : ∀ (k : Nat) (t : Tr), ts[k]? = some t → TrAt w g (k * 17) t
  fr : ∀ j, w.frozen? ⟨g, j, none⟩ = false
  own : ∀ t ∈ ts, w.ownsRow B 72 2 (.slice t.A t.n t.c) t.n (t.q.flatMap Wt.cells)
  ne : ∀ t ∈ ts, (Value.slice t.A t.n t.c).ownBlock ≠ some g
  apart : ∀ (i j : Nat) (ti tj : Tr) (b : Nat), i ≠ j → ts[i]? = some ti → ts[j]? = some tj → (Value.slice ti.A ti.n ti.c).ownBlock = some b → (Value.slice tj.A tj.n tj.c).ownBlock ≠ some b

theorem own_base {w : World} {base base' : Nat} {e : TypeId} {size : Nat} {v : Value} {n : Nat} {xs : List Value} (h : w.ownsRow base' e size v n xs) (hb : base ≤ base') : w.ownsRow base e size v n xs := by
  refine ⟨h.1, ?_⟩
  rcases h.2 with h' | ⟨g, cap, cur, h1, h2, h3⟩
  · exact .inl h'
  · exact .inr ⟨g, cap, cur, h1, by omega, h3⟩
theorem OwnSt.sts {w : World} {B g : Nat} {ts : List Tr} (h : OwnSt w B g ts) (hn : ∀ t ∈ ts, t.q.length = t.n) : Sts w w.heap.size (some ⟨g, 0, none⟩) ts.length ts :=
  ⟨⟨rfl, fun _ => ⟨g, 0, rfl, h.lt, fun i x hx j u hu => by rw [Nat.zero_add, ← h.at_ i x hx j u hu]⟩⟩, fun t ht => Sl.of_own Wt.size (hn t ht) (h.own t ht)⟩
def GivesOwn (mem : Nat → Int) (pts : List Pt) (w : World) (e : Ending) (w' : World) : Prop := ∃ g c ts, e = .returned (stVal mem (some ⟨g, 0, none⟩) ts.length c) ∧ OwnSt w' w.heap.size g ts ∧ ts.map Tr.pt = pts ∧ (∀ t ∈ ts, t.q.length = t.n) ∧ Below w.heap.size w w' ∧ ts.length ≤ c ∧ c ≤ 9223372036854775807

/-- Some threads' queues are copies already. -/
structure Half (w : World) (B g : Nat) (ts cl : List Tr) : Prop where
  own : OwnSt w B g cl
  rest : ∀ (k : Nat) (t : Tr), cl.length ≤ k → ts[k]? = some t → TrAt w g (k * 17) t
  pt : cl.map Tr.pt = (ts.take cl.length).map Tr.pt
  len : ∀ t ∈ cl, t.q.length = t.n
theorem TrAt.setO {w : World} {g o : Nat} {t : Tr} (h : TrAt w g o t) {p : Nat} (hp : p < o ∨ o + 17 ≤ p) (v : Value) : TrAt (w.setCell ⟨g, p, none⟩ v) g o t := fun j u hu => by
  have hj : j < 17 := (List.getElem?_eq_some_iff.1 hu).1
  rw [set_other _ _ _ _ (by intro e; injection e with e1 e2; omega)]
  exact h j u hu
theorem TrAt.setQ {w : World} {g o : Nat} {t : Tr} (h : TrAt w g o t) (A : Option Addr) (n c : Nat) (q : List Wt) : TrAt (w.setCell ⟨g, o + 16, none⟩ (.slice A n c)) g o ⟨t.done, t.regs, A, n, c, q⟩ := fun j u hu => by
  by_cases hj : j = 16
  · subst hj
    rw [World.cell?_setCell_same _ _ _ (h 16 _ rfl)]
    simpa [Tr.cells] using hu
  · rw [set_other _ _ _ _ (by intro e; injection e with e1 e2; omega)]
    refine h j u ?_
    have hj17 : j < 17 := (List.getElem?_eq_some_iff.1 hu).1
    match j, hj, hj17, hu with
    | 0, _, _, hu => exact hu
    | 1, _, _, hu => exact hu
    | 2, _, _, hu => exact hu
    | 3, _, _, hu => exact hu
    | 4, _, _, hu => exact hu
    | 5, _, _, hu => exact hu
    | 6, _, _, hu => exact hu
    | 7, _, _, hu => exact hu
    | 8, _, _, hu => exact hu
    | 9, _, _, hu => exact hu
    | 10, _, _, hu => exact hu
    | 11, _, _, hu => exact hu
    | 12, _, _, hu => exact hu
    | 13, _, _, hu => exact hu
    | 14, _, _, hu => exact hu
    | 15, _, _, hu => exact hu
    | 16, hj, _, _ => exact absurd rfl hj
theorem OwnSt.below {w w' : World} {B g : Nat} {ts : List Tr} (h : OwnSt w B g ts) (hb : Below w.heap.size w w') : OwnSt w' B g ts where
  lt := Nat.lt_of_lt_of_le h.lt hb.size
  lo := h.lo
  at_ := fun k t ht => (h.at_ k t ht).below hb h.lt
  fr := fun j => (belf hb h.lt).trans (h.fr j)
  own := fun t ht => own_below (h.own t ht) hb
  ne := h.ne
  apart := h.apart
theorem own_set {w : World} {base : Nat} {e : TypeId} {size : Nat} {v : Value} {n : Nat} {xs : List Value} (h : w.ownsRow base e size v n xs) {p : Addr} (hp : v.ownBlock ≠ some p.block) (u : Value) : (w.setCell p u).ownsRow base e size v n xs :=
  h.kept (row := some p.block) ⟨rfl, rfl, rfl, by simp, fun k hk hkr => Below.heap_setCell w p u k (fun e => hkr (by rw [e]))⟩ (.inr hp)
/-- One more queue is a copy. -/
theorem Half.step {w w' : World} {B g : Nat} {ts cl : List Tr} {t : Tr} {A : Option Addr} {c : Nat} (h : Half w B g ts cl) (ht : ts[cl.length]? = some t) (hb : Below w.heap.size w w') (hown : w'.ownsRow w.heap.size 72 2 (.slice A t.n c) t.n (t.q.flatMap Wt.cells)) (hB : B ≤ w.heap.size) (hq : t.q.length = t.n) :
    Half (w'.setCell ⟨g, cl.length * 17 + 16, none⟩ (.slice A t.n c)) B g ts (cl ++ [⟨t.done, t.regs, A, t.n, c, t.q⟩]) := by
  have hlo : ∀ b, (Value.slice A t.n c).ownBlock = some b → w.heap.size ≤ b ∧ b < w'.heap.size := fun b hb' => own_block_lt hown hb'
  have hg : g < w.heap.size := h.own.lt
  have hlen : ∀ k x, cl[k]? = some x → k < cl.length := fun k x hk => (List.getElem?_eq_some_iff.1 hk).1
  have hh := h.own.below hb
  refine ⟨⟨by simpa using hh.lt, hh.lo, fun k x hx => ?_, fun j => by simpa using hh.fr j, fun x hx => ?_, fun x hx => ?_, fun i j ti tj b hij hti htj hbi => ?_⟩, fun k x hk hx => ?_, ?_, ?_⟩
  · rw [List.getElem?_append] at hx
    split at hx
    · exact (hh.at_ k x hx).setO (by omega) _
    · rename_i hk
      have hk2 : k - cl.length < 1 := (List.getElem?_eq_some_iff.1 hx).1
      obtain rfl : k = cl.length := by omega
      simp at hx
      subst hx
      exact ((h.rest _ t (Nat.le_refl _) ht).below hb hg).setQ A t.n c t.q
  · rcases List.mem_append.1 hx with hx | hx
    · exact own_set (hh.own x hx) (hh.ne x hx) _
    · simp at hx
      subst hx
      exact own_set (own_base hown hB) (fun e => by have := hlo _ e; simp only at this; omega) _
  · rcases List.mem_append.1 hx with hx | hx
    · exact hh.ne x hx
    · simp at hx
      subst hx
      exact fun e => by have := hlo _ e; omega
  · rw [List.getElem?_append] at hti htj
    split at hti
    · split at htj
      · exact hh.apart i j ti tj b hij hti htj hbi
      · rename_i h1 h2
        have hk2 : j - cl.length < 1 := (List.getElem?_eq_some_iff.1 htj).1
        have : j - cl.length = 0 := by omega
        rw [this] at htj
        simp at htj
        subst htj
        intro e
        have := hlo _ e
        have := own_block_lt (h.own.own ti (List.mem_of_getElem? hti)) hbi
        omega
    · rename_i h1
      have hk2 : i - cl.length < 1 := (List.getElem?_eq_some_iff.1 hti).1
      have hi0 : i - cl.length = 0 := by omega
      rw [hi0] at hti
      simp at hti
      subst hti
      split at htj
      · intro e
        have := hlo _ hbi
        have := own_block_lt (h.own.own tj (List.mem_of_getElem? htj)) e
        omega
      · have hk3 : j - cl.length < 1 := (List.getElem?_eq_some_iff.1 htj).1
        omega
  · rw [List.length_append] at hk
    simp only [List.length_cons, List.length_nil] at hk
    exact ((h.rest k x (by omega) hx).below hb hg).setO (by omega) _
  · rw [List.map_append, h.pt, List.length_append, List.length_cons, List.length_nil, List.take_add_one, ht, List.map_append]
    rfl
  · intro x hx
    rcases List.mem_append.1 hx with hx | hx
    · exact h.len x hx
    · simp at hx
      subst hx
      exact hq

set_option maxRecDepth 100000 in
set_option maxHeartbeats 2000000 in
theorem copied_any (mem : Nat → Int) (A : Option Addr) (n c : Nat) (ts : List Tr) (w : World) (hs : Sts w w.heap.size A n ts) (hr : Roomy ts) (h1 : 1 ≤ n) (hn : n ≤ 1000) :
    Calls Try.prog 35 #[stVal mem A n c] w (GivesOwn mem (ts.map Tr.pt) w) := by
  have HS := Lib.hid hs
  have HR := Lib.hid hr
  have HL := Lib.hid hs.sl.len
  clear hs hr
  obtain ⟨W0, hW0⟩ : ∃ W0, W0 = (w.alloc (.cells #[.int .i64 (mem 0), .int .i64 (mem 1), .int .i64 (mem 2), .int .i64 (mem 3), .slice A n c] 31)).alloc (.cells #[.int .i64 0, .int .i64 0, .int .i64 0, .int .i64 0, .slice none 0 0] 31) := ⟨_, rfl⟩
  have hb0 : Below w.heap.size w W0 := by rw [hW0]; exact (by repeat (first | (with_reducible exact (Below.refl _ _)) | (with_reducible refine Below.drew ?_) | (with_reducible refine below_drewN ?_ _) | (with_reducible refine Below.setCell ?_ ?_ _; rotate_left; (first | omega | (simp <;> omega))) | (with_reducible refine Below.alloc ?_ ?_ _; rotate_left; (first | omega | (simp <;> omega)))))
  have hz0 : w.heap.size + 2 ≤ W0.heap.size := by rw [hW0]; simp
  have K1 := Lib.hid (show StAt W0 w.heap.size mem A n c from by rw [hW0]; exact (StAt.new w mem A n c).below (by repeat (first | (with_reducible exact (Below.refl _ _)) | (with_reducible refine Below.drew ?_) | (with_reducible refine below_drewN ?_ _) | (with_reducible refine Below.setCell ?_ ?_ _; rotate_left; (first | omega | (simp <;> omega))) | (with_reducible refine Below.alloc ?_ ?_ _; rotate_left; (first | omega | (simp <;> omega))))) (by simp))
  have K2 := Lib.hid (show StAt W0 (w.heap.size + 1) (fun _ => 0) none 0 0 from by
    rw [hW0]
    have := StAt.new (w.alloc (.cells #[.int .i64 (mem 0), .int .i64 (mem 1), .int .i64 (mem 2), .int .i64 (mem 3), .slice A n c] 31)) (fun _ => 0) none 0 0
    rwa [World.size_alloc] at this)
  go_enter Try.func35, Try.ntmps35
  go_upto_region 1 with fail
  rw [← hW0]
  have HW0 := Lib.hid hW0
  clear hW0
  have k4 := K1.out.s
  have k4f := K1.out.fr 4
  go_upto_region 2 with (go_at_call 54; refine (CloneTr.recs A n c ts W0 (HS.out.sl.up hb0) (by omega)).mono ?_; rintro e w1 ⟨A1, c1, rfl, hown1, hs1, hb1, hg1⟩; obtain ⟨g, rfl, hg0, hgl, hgf⟩ := hg1 (by omega); have k5 := (belc hb1 (by omega)).trans k4; have k5f := (belf hb1 (by omega)).trans k4f; have HO1 := Lib.hid hown1; have HS1 := Lib.hid hs1; have HGF := Lib.hid hgf; clear hown1 hs1 hgf hg1)
  have hz1 := hb1.size
  obtain ⟨W2, hW2⟩ : ∃ W2, W2 = w1.setCell ⟨w.heap.size, 4, none⟩ (.slice (some ⟨g, 0, none⟩) n c1) := ⟨_, rfl⟩
  rw [← hW2]
  have hbw1 : Below w.heap.size w w1 := hb0.trans (hb1.mono hb0.size)
  have hb2 : Below w.heap.size w W2 := by rw [hW2]; exact hbw1.setCell (Nat.le_refl _) _
  have hz2 : W2.heap.size = w1.heap.size := by rw [hW2]; simp
  have S1 := Lib.hid (show StAt W2 w.heap.size mem (some ⟨g, 0, none⟩) n c1 from by rw [hW2]; exact (K1.out.below hb1 (by omega)).setS _ _ _)
  have S2 := Lib.hid (show StAt W2 (w.heap.size + 1) (fun _ => 0) none 0 0 from by rw [hW2]; exact (K2.out.below hb1 (by omega)).other (by simp) _)
  have hcc := own_cap HO1.out
  have hnc := (own_room HO1.out).1
  have H0 := Lib.hid (show Half W2 W0.heap.size g ts [] from by
    refine ⟨⟨by omega, by omega, fun k t h => by simp at h, fun j => by rw [hW2]; simpa using HGF.out j, fun t h => by simp at h, fun t h => by simp at h, fun i j ti tj b _ h => by simp at h⟩, fun k t _ ht j u hu => ?_, rfl, fun t h => by simp at h⟩
    obtain ⟨ab, ao, e, hlo, hat⟩ := HS1.out.at_ (by omega)
    injection e with e
    injection e with e1 e2 e3
    subst e1 e2
    rw [hW2, set_other _ _ _ _ (by intro e; injection e with e1 e2; omega)]
    have := hat k t ht j u hu
    rwa [Nat.zero_add] at this)
  have HW2 := Lib.hid hW2
  clear hW2 k5 k5f k4 k4f
  have k6 := S1.out.s
  go_wp2_with fail
  clear k6
  go_loopw [11] (fun s wr => ∃ (k : Nat) (cl : List Tr), k ≤ n ∧ s = .int .i64 k ∧ Hid (cl.length = k) ∧ Hid (Half wr W0.heap.size g ts cl) ∧ Hid (StAt wr w.heap.size mem (some ⟨g, 0, none⟩) n c1) ∧ Hid (StAt wr (w.heap.size + 1) (fun _ => 0) none 0 0) ∧ W2.heap.size ≤ wr.heap.size ∧ Below w.heap.size w wr) (fun s _ => n - (intOf s).toNat)
  case atStart => exact ⟨0, [], Nat.zero_le _, rfl, Lib.hid rfl, H0, S1, S2, Nat.le_refl _, hb2⟩
  case round =>
    obtain ⟨k, cl, hk, rfl, hcl, hH, hS1, hS2, hzr, hbr⟩ := hrel
    by_cases hlt : k < n
    · have hltI : (k : Int) < (n : Int) := by omega
      obtain ⟨t, ht⟩ : ∃ t, ts[k]? = some t := ⟨_, List.getElem?_eq_getElem (by rw [HL.out]; exact hlt)⟩
      have htr := HR.out t (List.mem_of_getElem? ht)
      have hgl' : g < wr.heap.size := by omega
      have HTQ := Lib.hid (HS.out.q t (List.mem_of_getElem? ht))
      have KS := Lib.hid (show ∀ w', Below wr.heap.size wr w' → (fun w' : World => w'.cell? ⟨w.heap.size, 4, none⟩ = some (.slice (some ⟨g, 0, none⟩) n c1) ∧ w'.cell? ⟨g, k * 17 + 16, none⟩ = some (.slice t.A t.n t.c) ∧ w'.frozen? ⟨g, k * 17 + 16, none⟩ = false) w' from fun w' hb =>
        ⟨(belc hb (by omega)).trans hS1.out.s, (belc hb hgl').trans ((hH.out.rest k t (by rw [hcl.out]; exact Nat.le_refl _) ht) 16 _ rfl), (belf hb hgl').trans (hH.out.own.fr _)⟩)
      obtain ⟨m1, m2, m3⟩ := KS.out wr (Below.refl _ _)
      have HTT := Lib.hid ht
      have htn : t.n ≤ 1000 := htr.2.2
      clear ht
      go_upto_region 5 with fail
      go_region_law (first | (go_simp; go_at_call 55; refine (CloneWt.recs t.A t.n t.c t.q _ ((HTQ.out.up hbr).up (Below.drew (Below.refl _ _))) (by omega)).mono ?_; rintro e Y ⟨A5, c5, rfl, hown5, hs5, hY, hg5⟩; have hY : Below wr.heap.size wr Y := (Below.drew (Below.refl _ _)).trans hY; have HO5 := Lib.hid hown5; clear hown5 hs5 hg5; obtain ⟨p1, p2, p3⟩ := KS.out Y hY))
      all_goals
        have hbY : Below w.heap.size w Y := hbr.trans (hY.mono hbr.size)
        have hzY := hY.size
        have N1 := Lib.hid (hH.out.step (by rw [hcl.out]; exact HTT.out) hY HO5.out (by omega) HTQ.out.len)
        go_wp2
        go_roundw
        case rel => exact ⟨k + 1, cl ++ [⟨t.done, t.regs, A5, t.n, c5, t.q⟩], by omega, by go_num, Lib.hid (by rw [List.length_append, hcl.out]; rfl), Lib.hid (by have := N1.out; rwa [hcl.out] at this), Lib.hid ((hS1.out.below hY (by omega)).other (by show g ≠ _; omega) _), Lib.hid ((hS2.out.below hY (by omega)).other (by show g ≠ _; omega) _), by simp; omega, hbY.setCell (by show _ ≤ g; omega) _⟩
        case measure => simp [intOf]; omega
    · obtain rfl : k = n := by omega
      go_wp2_with (first | (with_reducible refine wpList_load_st rfl (.tmp 1) rfl (by simp [Act.eval]) hS1.out ?_) | (with_reducible refine wpList_store_st rfl (.tmp 2) (.tmp 27) rfl (mem := mem) (A := some ⟨g, 0, none⟩) (n := k) (c := c1) (by simp [Act.eval, Act.put]) (by simp [Act.eval, Act.put]) hS2.out ?_; intro W3 hst hgr; have HST := Lib.hid hst; clear hst))
      have hlen : cl.length = ts.length := by rw [hcl.out, HL.out]
      have hHo := hH.out.own
      have hf : OwnSt W3 w.heap.size g cl := ⟨Nat.lt_of_lt_of_le hHo.lt hgr.size, by have := hHo.lo; omega, fun i t ht => (hHo.at_ i t ht).grown hgr hHo.lt (by intro e; injection e with e; have := hHo.lo; omega), fun j => ((gcell hgr).2 g j hHo.lt (by intro e; injection e with e; have := hHo.lo; omega)).trans (hHo.fr j), fun t ht => own_base ((hHo.own t ht).kept hgr (.inr (fun e => by have := own_block_lt (hHo.own t ht) e; omega))) (by omega), hHo.ne, hHo.apart⟩
      refine bodyPost_ret (results_st1 rfl rfl HST.out) rfl ?_
      refine ⟨g, c1, cl, by rw [hcl.out], hf, ?_, hH.out.len, hbr.grown hgr hbr.size (fun j e => by cases e; omega), by rw [hcl.out]; exact hnc, hcc⟩
      rw [hH.out.pt, hlen, List.take_of_length_le (Nat.le_refl _)]
end Go.Proofs.Ytnomghcieomjmaa
