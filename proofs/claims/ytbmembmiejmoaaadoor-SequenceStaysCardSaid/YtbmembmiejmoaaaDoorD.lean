/- The reference's Train at a key that is not there. -/
import Derived.Test.YtbmembmiejmoaaaDoorC
import Derived.Deep.RegionLawGrows
import Derived.Deep.RegionLaw
namespace Go.Proofs.YtbmembmiejmoaaaDoor
open Go.RowKit

theorem reads_take {w2 W w4 : World} {o : Obj} {g : Nat} {xs : List Value} (hgr : W.grownBy w4 (some w2.heap.size)) (hg : g < w2.heap.size) (hc : ∀ (j : Nat) (u : Value), xs[j]? = some u → w2.cell? ((⟨g, 0, none⟩ : Addr).add j) = some u) (i : Nat)
    (hW : W = (w2.alloc o).drew := by rfl) : ∀ b, some (⟨g, 0, none⟩ : Addr) = some b → ∀ (j : Nat) (u : Value), (xs.take (i * 3))[j]? = some u → w4.cell? (b.add j) = some u := by
  intro b hb j u hu
  injection hb with hb
  subst hb
  rw [List.getElem?_take] at hu
  split at hu
  · have h := hc j u hu
    rw [Addr.add_lit] at h ⊢
    have hz : W.heap.size = w2.heap.size + 1 := by rw [hW]; show (w2.alloc o).heap.size = _; simp
    rw [(gcell hgr).1 _ _ (by omega) (by intro e; injection e; omega), hW]
    exact (cell_old w2 _ _ _ hg).trans h
  · cases hu

set_option maxRecDepth 100000 in
set_option maxHeartbeats 1000000 in
theorem reftrain_new (A : Option Addr) (n c : Nat) (ts : List Trk) (key : Int) (v : Int) (w : World) (hs : Sl w w.heap.size 3 Trk.cells A n ts) (hn : n ≤ 900000) (hh : hit ts key = false) :
    Calls Tryd.prog 10 #[.agg #[.slice A n c], .int .i64 key, .int .i64 v] w (Gives (train ts key v) w) := by
  obtain ⟨i0, hi, hz0, hz1, hz2⟩ := info_parts CloneTrk.infoE
  have HH := Lib.hid hh
  clear hh
  obtain ⟨W, hW⟩ : ∃ W, W = (w.alloc (.cells #[.slice A n c] 26)).alloc (.cells #[.slice none 0 0] 26) := ⟨_, rfl⟩
  have hWb : Below w.heap.size w W := by rw [hW]; exact (by repeat (first | (with_reducible exact (Below.refl _ _)) | (with_reducible refine Below.drew ?_) | (with_reducible refine below_drewN ?_ _) | (with_reducible refine Below.setCell ?_ ?_ _; rotate_left; (first | omega | (simp <;> omega))) | (with_reducible refine Below.alloc ?_ ?_ _; rotate_left; (first | omega | (simp <;> omega)))))
  have hWz : W.heap.size = w.heap.size + 2 := by rw [hW]; simp
  have hsW := (hs.below hWb).mono (B' := W.heap.size) (by omega)
  have q0 : W.cell? ⟨w.heap.size, 0, none⟩ = some (.slice A n c) := (by rw [hW, cell_old _ _ _ _ (by simp <;> omega), cell_new _ _ _ _ _ (by simp <;> omega)]; rfl)
  have q3 : W.cell? ⟨w.heap.size + 1, 0, none⟩ = some (.slice none 0 0) := (by rw [hW, cell_new _ _ _ _ _ (by simp <;> omega)]; rfl)
  have q4 : W.frozen? ⟨w.heap.size + 1, 0, none⟩ = false := (by rw [hW, frozen_new _ _ _ _ _ (by simp <;> omega)])
  have HL := Lib.hid (show (ts.flatMap Trk.cells).length = n * 3 from by rw [flat_len Trk.size, hs.len])
  have HQ0 := Lib.hid q0
  have HQ3 := Lib.hid q3
  have HQ4 := Lib.hid q4
  have HZ := Lib.hid hWz
  have HB := Lib.hid hWb
  clear hWz q0 q3 q4 hWb
  subst hW
  go_enter Tryd.func10, Tryd.ntmps10
  go_wp2_with (at_builtin; refine wpList_append_any rfl _ _ 24 rfl (w.heap.size + 2) 58 i0 _ 3 24 Tryd.underlying24 hi hz0 hz1 hz2 rfl (by decide) (.slice none 0 0) 0 [] rfl (World.ownsRow_nil _ _ _ _) A n c (ts.flatMap Trk.cells) rfl (hsW.src Trk.size).1 HL.out (hsW.src Trk.size).2 (one_cells ts) (by unfold maxLen; omega) (by omega) (by simp) ?_; intro A1 c1 w1 hown1 hgr1 _; have d0 := ((gcell hgr1).1 w.heap.size 0 (by rw [HZ.out]; omega) (by simp [Value.ownBlock])).trans HQ0.out)
  have hz := hgr1.size
  rw [HZ.out] at hz
  have d3 := ((gcell hgr1).1 (w.heap.size + 1) 0 (by rw [HZ.out]; omega) (by simp [Value.ownBlock])).trans HQ3.out
  have d4 := ((gcell hgr1).2 (w.heap.size + 1) 0 (by rw [HZ.out]; omega) (by simp [Value.ownBlock])).trans HQ4.out
  have hb1 : Below w.heap.size w w1 := HB.out.grown hgr1 (by rw [HZ.out]; omega) (by simp [Value.ownBlock])
  rw [List.nil_append, Nat.zero_add] at hown1
  have hs1 := (hs.below hb1).mono (B' := w1.heap.size) (by omega)
  refine (at_any A n c ts key _ hs1 (by omega)).mono ?_
  rintro e w2 ⟨rfl, hb2⟩
  have hz2' := hb2.size
  have e3 := (hb2.cell (p := ⟨w.heap.size + 1, 0, none⟩) (by simp; omega)).trans d3
  have e4 := (hb2.frozen (p := ⟨w.heap.size + 1, 0, none⟩) (by simp; omega)).trans d4
  have hown2 := own_below hown1 hb2
  have hbW : Below w.heap.size w w2 := hb1.trans (hb2.mono (by omega))
  have hle := lowb_le ts key
  rw [hs.len] at hle
  have hrow : (ts.flatMap Trk.cells).take (lowb ts key * 3) ++ (Trk.cells ⟨key, v, 1⟩ ++ (ts.flatMap Trk.cells).drop (lowb ts key * 3)) = (train ts key v).flatMap Trk.cells := by
    rw [flat_take Trk.size, flat_drop Trk.size, train, HH.out]; simp
  have hlen : (train ts key v).length = n + 1 := by
    rw [train, HH.out]; simp [hs.len]; omega
  have HRO := Lib.hid hrow
  have HLE := Lib.hid hlen
  rw [HH.out]
  obtain ⟨i, hI⟩ : ∃ i, i = lowb ts key := ⟨_, rfl⟩
  rw [← hI] at hle
  rw [← hI]
  rw [← hI] at HRO
  clear hrow hlen d0 d3 d4 hI
  have hlt2 : w.heap.size + 1 < w2.heap.size := by omega
  have hsrc := own_src hown2
  obtain ⟨xs, hxs⟩ : ∃ xs, xs = ts.flatMap Trk.cells := ⟨_, rfl⟩
  rw [← hxs] at hsrc HL HRO
  obtain ⟨cs, hcs⟩ : ∃ cs, cs = Trk.cells ⟨key, v, 1⟩ := ⟨_, rfl⟩
  rw [← hcs] at HRO
  have hcs1 : ∀ u ∈ cs, u.oneCell' = true := by rw [hcs]; simp [Trk.cells, Value.oneCell']
  have hxs1 : ∀ u ∈ xs, u.oneCell' = true := by rw [hxs]; exact one_cells ts
  have H1 := Lib.hid hcs1
  have H2 := Lib.hid hxs1
  have hcl : cs.length = 3 := by rw [hcs]; rfl
  have HCL := Lib.hid hcl
  have hrowW : ((w2.alloc (.cells #[.int .i64 key, .int .i64 v, .int .i64 1] 58))).ownsRow w2.heap.size 58 3 (.slice (some ⟨w2.heap.size, 0, none⟩) 1 1) 1 cs := by
    rw [hcs]; exact World.ownsRow_lit w2 _ 1 (Nat.le_refl _) (by unfold maxLen; omega) rfl
  have HRW := Lib.hid hrowW
  have hx1 : ∀ u ∈ xs.drop (i * 3), u.oneCell' = true := fun u hu => hxs1 u (List.mem_of_mem_drop hu)
  have HX1 := Lib.hid hx1
  have hx2 : ∀ u ∈ cs ++ xs.drop (i * 3), u.oneCell' = true := fun u hu => by rcases List.mem_append.1 hu with h | h; exact hcs1 u h; exact hx1 u h
  have HX2 := Lib.hid hx2
  have hne2 : ¬ w.heap.size + 1 = w2.heap.size := by omega
  clear hcs hxs hcs1 hxs1 hcl hrowW hx1 hx2
  rcases hown2.2 with ⟨hA1, h0⟩ | ⟨g, cap, cur, hA1, hbg, hg, hnc, hcm, _⟩
  · injection hA1 with hA1 _ hc1
    obtain rfl : i = 0 := by omega
    subst hA1 hc1 h0
    have f2 : ∀ (j : Nat) (u : Value), cs[j]? = some u → ((w2.alloc (.cells #[.int .i64 key, .int .i64 v, .int .i64 1] 58)).drew).cell? ((⟨w2.heap.size, 0, none⟩ : Addr).add j) = some u := fun j u hu => HRW.out.cells (g := w2.heap.size) rfl j u hu
    have F2 := Lib.hid f2
    have f1 : ∀ b, (none : Option Addr) = some b → ∀ (j : Nat) (u : Value), (xs.take (0 * 3))[j]? = some u → ((w2.alloc (.cells #[.int .i64 key, .int .i64 v, .int .i64 1] 58)).drew).cell? (b.add j) = some u := by
      intro b hb
      cases hb
    have F1 := Lib.hid f1
    clear f1 f2
    go_wp2
    go_region_law (first | (refine step_append_zero rfl (.tmp 29) (.tmp 32) 24 rfl 58 i0 Tryd.underlying24 hi (some ⟨w2.heap.size, 0, none⟩) 1 1 (Nat.le_refl _) (by simp [Act.eval]) none 0 (by simp [Act.eval]) ?_) | (refine step_append_grows rfl (.tmp 25) (.tmp 33) 24 rfl 58 i0 _ 3 24 Tryd.underlying24 hi hz0 hz1 hz2 rfl (by decide) none 0 0 (xs.take (0 * 3)) (by simp [Act.eval]) (by intro _; exact ⟨rfl, rfl⟩) (by rw [List.length_take, HL.out]; omega) F1.out ⟨w2.heap.size, 0, none⟩ 1 1 cs (by simp [Act.eval]) (by rw [HCL.out]) F2.out H1.out (by omega) (by unfold maxLen; omega) (by omega) ?_; intro v5 w5 hown5 hgr5; obtain ⟨A5, c5, hv5⟩ := own_form hown5 (by omega); subst hv5))
    have hz5 := hgr5.size
    have hzA : ∀ (o : Obj), ((w2.alloc o).drew).heap.size = w2.heap.size + 1 := fun o => by show (w2.alloc o).heap.size = _; simp
    rw [hzA] at hz5
    have e3' := ((gcell hgr5).1 (w.heap.size + 1) 0 (by rw [hzA]; omega) (by simp)).trans ((cell_old w2 _ _ _ hlt2).trans e3)
    have e4' := ((gcell hgr5).2 (w.heap.size + 1) 0 (by rw [hzA]; omega) (by simp)).trans ((frozen_old w2 _ _ _ hlt2).trans e4)
    have hb5 : Below w.heap.size w w5 := ((hbW.alloc (by omega) _).drew).grown hgr5 (by rw [hzA]; omega) (by intro k hk; cases hk)
    have hd : xs.drop (0 * 3) = [] := List.drop_eq_nil_of_le (by rw [HL.out]; omega)
    have hro := HRO.out
    rw [hd, List.append_nil] at hro
    rw [hro] at hown5
    have hne5 : (Value.slice A5 (0 + 1) c5).ownBlock ≠ some (w.heap.size + 1) := fun e => by have h := hown5.lt _ e; rw [hzA] at h; omega
    go_wp2
    refine bodyPost_ret (v := .agg #[.slice A5 (0 + 1) c5]) (by simp [results, Tryd.results10, go_sem, e3']) rfl ⟨A5, _, c5, rfl, ?_, (by repeat (first | (with_reducible exact hb5) | (with_reducible refine Below.drew ?_) | (with_reducible refine below_drewN ?_ _) | (with_reducible refine Below.setCell ?_ ?_ _; rotate_left; (first | omega | (simp <;> omega))) | (with_reducible refine Below.alloc ?_ ?_ _; rotate_left; (first | omega | (simp <;> omega))))), own_lo hown5 (by first | omega | (rw [hzA]; omega))⟩
    exact Sl.of_own Trk.size HLE.out (own_setCell hown5 _ hne5)
  · injection hA1 with hA1 _ hc1
    subst hA1 hc1
    have hgl : g < w2.heap.size := (hown2.lt g rfl).2
    have hic : i ≤ c1 := by omega
    have HC := Lib.hid (hsrc.2 _ rfl)
    clear hsrc
    have hsx : ∀ ad, (some (⟨g, i * 3, none⟩ : Addr)) = some ad → ∀ (j : Nat) (u : Value), (xs.drop (i * 3))[j]? = some u → (w2.alloc (.cells #[.int .i64 key, .int .i64 v, .int .i64 1] 58)).cell? (ad.add j) = some u := by
      intro ad had j u hu
      injection had with had
      subst had
      rw [Addr.add_lit]
      rw [List.getElem?_drop] at hu
      have h := HC.out _ u hu
      rw [Addr.add_lit, Nat.zero_add] at h
      exact (cell_old w2 _ _ _ hgl).trans h
    have HSX := Lib.hid hsx
    clear hsx
    by_cases hci : c1 = i
    · obtain rfl : i = n := by omega
      subst hci
      have f2 : ∀ (j : Nat) (u : Value), cs[j]? = some u → ((w2.alloc (.cells #[.int .i64 key, .int .i64 v, .int .i64 1] 58)).drew).cell? ((⟨w2.heap.size, 0, none⟩ : Addr).add j) = some u := fun j u hu => HRW.out.cells (g := w2.heap.size) rfl j u hu
      have F2 := Lib.hid f2
      have f1 : ∀ b, some (⟨g, 0, none⟩ : Addr) = some b → ∀ (j : Nat) (u : Value), (xs.take (c1 * 3))[j]? = some u → ((w2.alloc (.cells #[.int .i64 key, .int .i64 v, .int .i64 1] 58)).drew).cell? (b.add j) = some u := by
        intro b hb j u hu
        rw [List.getElem?_take] at hu
        split at hu
        · have h := HC.out j u hu
          injection hb with hb
          subst hb
          rw [Addr.add_lit] at h ⊢
          exact (cell_old w2 _ _ _ hgl).trans h
        · cases hu
      have F1 := Lib.hid f1
      clear f1 f2
      go_wp2
      go_region_law (first | (refine step_append_zero rfl (.tmp 29) (.tmp 32) 24 rfl 58 i0 Tryd.underlying24 hi (some ⟨w2.heap.size, 0, none⟩) 1 1 (Nat.le_refl _) (by simp [Act.eval]) (some ⟨g, 0, none⟩) 0 (by simp [Act.eval]) ?_) | (refine step_append_grows rfl (.tmp 25) (.tmp 33) 24 rfl 58 i0 _ 3 24 Tryd.underlying24 hi hz0 hz1 hz2 rfl (by decide) (some ⟨g, 0, none⟩) c1 c1 (xs.take (c1 * 3)) (by simp [Act.eval]) (by intro h; cases h) (by rw [List.length_take, HL.out]; omega) F1.out ⟨w2.heap.size, 0, none⟩ 1 1 cs (by simp [Act.eval]) (by rw [HCL.out]) F2.out H1.out (by omega) (by unfold maxLen; omega) (by omega) ?_; intro v5 w5 hown5 hgr5; obtain ⟨A5, c5, hv5⟩ := own_form hown5 (by omega); subst hv5))
      have hz5 := hgr5.size
      have hzA : ∀ (o : Obj), ((w2.alloc o).drew).heap.size = w2.heap.size + 1 := fun o => by show (w2.alloc o).heap.size = _; simp
      rw [hzA] at hz5
      have e3' := ((gcell hgr5).1 (w.heap.size + 1) 0 (by rw [hzA]; omega) (by simp)).trans ((cell_old w2 _ _ _ hlt2).trans e3)
      have e4' := ((gcell hgr5).2 (w.heap.size + 1) 0 (by rw [hzA]; omega) (by simp)).trans ((frozen_old w2 _ _ _ hlt2).trans e4)
      have hb5 : Below w.heap.size w w5 := ((hbW.alloc (by omega) _).drew).grown hgr5 (by rw [hzA]; omega) (by intro k hk; cases hk)
      have hd : xs.drop (c1 * 3) = [] := List.drop_eq_nil_of_le (by rw [HL.out]; omega)
      have hro := HRO.out
      rw [hd, List.append_nil] at hro
      rw [hro] at hown5
      have hne5 : (Value.slice A5 (c1 + 1) c5).ownBlock ≠ some (w.heap.size + 1) := fun e => by have h := hown5.lt _ e; rw [hzA] at h; omega
      go_wp2
      refine bodyPost_ret (v := .agg #[.slice A5 (c1 + 1) c5]) (by simp [results, Tryd.results10, go_sem, e3']) rfl ⟨A5, _, c5, rfl, ?_, (by repeat (first | (with_reducible exact hb5) | (with_reducible refine Below.drew ?_) | (with_reducible refine below_drewN ?_ _) | (with_reducible refine Below.setCell ?_ ?_ _; rotate_left; (first | omega | (simp <;> omega))) | (with_reducible refine Below.alloc ?_ ?_ _; rotate_left; (first | omega | (simp <;> omega))))), own_lo hown5 (by first | omega | (rw [hzA]; omega))⟩
      exact Sl.of_own Trk.size HLE.out (own_setCell hown5 _ hne5)
    · go_wp2
      go_region_law (first
        | (refine step_append_any rfl (.tmp 29) (.tmp 32) 24 rfl w2.heap.size 58 i0 _ 3 24 Tryd.underlying24 hi hz0 hz1 hz2 rfl (by decide) (.slice (some ⟨w2.heap.size, 0, none⟩) 1 1) 1 cs (by simp [Act.eval]) HRW.out (some ⟨g, i * 3, none⟩) (n - i) (c1 - i) (xs.drop (i * 3)) (by simp [Act.eval]) (by intro h; cases h) (by rw [List.length_drop, HL.out]; omega) HSX.out HX1.out (by unfold maxLen; omega) (by omega) (by show _ ≤ (w2.alloc _).heap.size; simp) ?_; intro A4 c4 w4 hown4 hgr4 hor4; obtain ⟨g4, c5, hA4, hbg4, hgl4⟩ := hown4.form (by omega); injection hA4 with hA4 _ hc4; subst hA4 hc4; have F1 := reads_take hgr4 hgl HC.out i)
        | (refine step_append_grows rfl (.tmp 25) (.tmp 33) 24 rfl 58 i0 _ 3 24 Tryd.underlying24 hi hz0 hz1 hz2 rfl (by decide) (some ⟨g, 0, none⟩) i i (xs.take (i * 3)) (by simp [Act.eval]) (by intro h; cases h) (by rw [List.length_take, HL.out]; omega) F1 ⟨g4, 0, none⟩ (1 + (n - i)) c4 (cs ++ xs.drop (i * 3)) (by simp [Act.eval]) (by rw [List.length_append, HCL.out, List.length_drop, HL.out]; omega) (hown4.cells (g := g4) rfl) HX2.out (by omega) (by unfold maxLen; omega) (by omega) ?_; intro v5 w5 hown5 hgr5; obtain ⟨A5, c5, hv5⟩ := own_form hown5 (by omega); subst hv5))
      have hz4 := hgr4.size
      have hz5 := hgr5.size
      have hzA : ∀ (o : Obj), ((w2.alloc o).drew).heap.size = w2.heap.size + 1 := fun o => by show (w2.alloc o).heap.size = _; simp
      rw [hzA] at hz4
      have e3' := ((gcell hgr5).1 (w.heap.size + 1) 0 (by omega) (by simp)).trans (((gcell hgr4).1 (w.heap.size + 1) 0 (by rw [hzA]; omega) (fun e => hne2 (by injection e))).trans ((cell_old w2 _ _ _ hlt2).trans e3))
      have e4' := ((gcell hgr5).2 (w.heap.size + 1) 0 (by omega) (by simp)).trans (((gcell hgr4).2 (w.heap.size + 1) 0 (by rw [hzA]; omega) (fun e => hne2 (by injection e))).trans ((frozen_old w2 _ _ _ hlt2).trans e4))
      have hb5 : Below w.heap.size w w5 := ((((hbW.alloc (by omega) _).drew).grown hgr4 (by rw [hzA]; omega) (by intro k hk; injection hk with hk; have hk' : w2.heap.size = k := hk; omega))).grown hgr5 (by omega) (by intro k hk; cases hk)
      have hl5 : i + (1 + (n - i)) = n + 1 := by omega
      rw [HRO.out, hl5] at hown5
      have hne5 : (Value.slice A5 (n + 1) c5).ownBlock ≠ some (w.heap.size + 1) := fun e => by have := hown5.lt _ e; omega
      go_wp2
      refine bodyPost_ret (v := .agg #[.slice A5 (n + 1) c5]) (by simp [results, Tryd.results10, go_sem, e3']) rfl ⟨A5, _, c5, rfl, ?_, (by repeat (first | (with_reducible exact hb5) | (with_reducible refine Below.drew ?_) | (with_reducible refine below_drewN ?_ _) | (with_reducible refine Below.setCell ?_ ?_ _; rotate_left; (first | omega | (simp <;> omega))) | (with_reducible refine Below.alloc ?_ ?_ _; rotate_left; (first | omega | (simp <;> omega))))), own_lo hown5 (by first | omega | (rw [hzA]; omega))⟩
      exact Sl.of_own Trk.size HLE.out (own_setCell hown5 _ hne5)
end Go.Proofs.YtbmembmiejmoaaaDoor
