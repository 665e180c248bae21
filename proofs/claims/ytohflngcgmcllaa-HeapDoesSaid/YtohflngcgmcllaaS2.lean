/- Sameness of objects and heaps; program and reference. -/
import Derived.Test.YtohflngcgmcllaaS
namespace Go.Proofs.Ytohflngcgmcllaa
open Go.RowKit

theorem po_ne_id {x y : Ob} (h : ¬ x.id = y.id) : decide (x.po = y.po) = false := decide_eq_false (fun e => h (by injection e))
theorem po_ne_s {x y : Ob} (h : ¬ x.s = y.s) : decide (x.po = y.po) = false := decide_eq_false (fun e => h (by injection e))
theorem po_eq {x y : Ob} (h : x.id = y.id) (hs : x.s = y.s) : decide (x.po = y.po) = true := decide_eq_true (by simp [Ob.po, h, hs])

set_option maxHeartbeats 1000000 in
theorem same1_any (x y : Ob) (w : World) (hx : Sl w w.heap.size 2 Val.cells x.A x.n x.s) (hy : Sl w w.heap.size 2 Val.cells y.A y.n y.s) (hn : x.n ≤ 9000000000000) (hm : y.n ≤ 9000000000000) :
    Calls Try.prog 33 #[.agg #[.int .i64 x.id, .slice x.A x.n x.c], .agg #[.int .i64 y.id, .slice y.A y.n y.c]] w fun e w' => e = .returned (.bool (decide (x.po = y.po))) ∧ Below w.heap.size w w' := by
  obtain ⟨xi, xA, xn, xc, xs⟩ := x
  obtain ⟨yi, yA, yn, yc, ys⟩ := y
  simp only at hx hy hn hm ⊢
  by_cases hi : xi = yi
  · subst hi
    obtain ⟨w2, hw2⟩ : ∃ w2, w2 = (w.alloc (.cells #[.int .i64 xi, .slice xA xn xc] 27)).alloc (.cells #[.int .i64 xi, .slice yA yn yc] 27) := ⟨_, rfl⟩
    have hb2 : Below w.heap.size w w2 := by rw [hw2]; exact (by repeat (first | (with_reducible exact (Below.refl _ _)) | (with_reducible refine Below.drew ?_) | (with_reducible refine below_drewN ?_ _) | (with_reducible refine Below.setCell ?_ ?_ _; rotate_left; (first | omega | (simp <;> omega))) | (with_reducible refine Below.alloc ?_ ?_ _; rotate_left; (first | omega | (simp <;> omega)))))
    have HX := Lib.hid (hx.up hb2)
    have HY := Lib.hid (hy.up hb2)
    have HE := Lib.hid (show decide ((⟨xi, xA, xn, xc, xs⟩ : Ob).po = (⟨xi, yA, yn, yc, ys⟩ : Ob).po) = decide (xs = ys) from by simp [Ob.po])
    clear hx hy
    go_enter Try.func33, Try.ntmps33
    go_wp2_with fail
    rw [← hw2]
    refine (equal_any xA xn xc xs yA yn yc ys w2 HX.out HY.out hn hm).mono ?_
    rintro e w3 ⟨rfl, hb3⟩
    have hb := hb2.trans (hb3.mono hb2.size)
    clear hw2
    go_wp2
    go_ret
    exact ⟨by rw [HE.out]; rfl, hb⟩
  · have HE := Lib.hid (po_ne_id (x := ⟨xi, xA, xn, xc, xs⟩) (y := ⟨yi, yA, yn, yc, ys⟩) hi)
    go_enter Try.func33, Try.ntmps33
    go_wp2
    go_ret
    exact ⟨by rw [HE.out]; rfl, (by repeat (first | (with_reducible exact (Below.refl _ _)) | (with_reducible refine Below.drew ?_) | (with_reducible refine below_drewN ?_ _) | (with_reducible refine Below.setCell ?_ ?_ _; rotate_left; (first | omega | (simp <;> omega))) | (with_reducible refine Below.alloc ?_ ?_ _; rotate_left; (first | omega | (simp <;> omega)))))⟩

set_option maxHeartbeats 2000000 in
theorem sameobj_any (x y : Ob) (w : World) (hx : Sl w w.heap.size 2 Val.cells x.A x.n x.s) (hy : Sl w w.heap.size 2 Val.cells y.A y.n y.s) (hn : x.n ≤ 9000000000000) (hm : y.n ≤ 9000000000000) :
    Calls Try.prog 17 #[.agg #[.int .i64 x.id, .slice x.A x.n x.c], .agg #[.int .i64 y.id, .slice y.A y.n y.c]] w fun e w' => e = .returned (.bool (decide (x.po = y.po))) ∧ Below w.heap.size w w' := by
  obtain ⟨xi, A, n, xc, s⟩ := x
  obtain ⟨yi, B, m, yc, t⟩ := y
  simp only at hx hy hn hm ⊢
  have HS := Lib.hid hx.len
  have HT := Lib.hid hy.len
  by_cases hi : xi = yi
  · subst hi
    by_cases hnm : n = m
    · subst hnm
      have HE := Lib.hid (show decide ((⟨xi, A, n, xc, s⟩ : Ob).po = (⟨xi, B, n, yc, t⟩ : Ob).po) = decide (s = t) from by simp [Ob.po])
      obtain ⟨w2, hw2⟩ : ∃ w2, w2 = (w.alloc (.cells #[.int .i64 xi, .slice A n xc] 27)).alloc (.cells #[.int .i64 xi, .slice B n yc] 27) := ⟨_, rfl⟩
      have hb2 : Below w.heap.size w w2 := by rw [hw2]; exact (by repeat (first | (with_reducible exact (Below.refl _ _)) | (with_reducible refine Below.drew ?_) | (with_reducible refine below_drewN ?_ _) | (with_reducible refine Below.setCell ?_ ?_ _; rotate_left; (first | omega | (simp <;> omega))) | (with_reducible refine Below.alloc ?_ ?_ _; rotate_left; (first | omega | (simp <;> omega)))))
      have hz2 : w2.heap.size = w.heap.size + 2 := by rw [hw2]; simp
      have HC1 := Lib.hid (show w2.cell? ⟨w.heap.size, 1, none⟩ = some (.slice A n xc) from by rw [hw2, cell_old _ _ _ _ (by simp), cell_new _ _ _ _ _ rfl]; rfl)
      have HD1 := Lib.hid (show w2.cell? ⟨w.heap.size + 1, 1, none⟩ = some (.slice B n yc) from by rw [hw2, cell_new _ _ _ _ _ (by simp)]; rfl)
      go_enter Try.func17, Try.ntmps17
      go_wp2_with fail
      rw [← hw2]
      have HW2 := Lib.hid hw2
      clear hw2
      go_loopw [23] (fun i wr => ∃ k : Nat, k ≤ n ∧ i = .int .i64 k ∧ Hid (∀ i, i < k → s[i]? = t[i]?) ∧ Below w2.heap.size w2 wr) (fun i _ => n - (intOf i).toNat)
      case atStart => exact ⟨0, Nat.zero_le _, rfl, Lib.hid (fun i h => absurd h (by omega)), Below.refl _ _⟩
      case round =>
        obtain ⟨k, hk, rfl, hall, hb⟩ := hrel
        have hbw : Below w.heap.size w wr := hb2.trans (hb.mono hb2.size)
        have e1 : wr.cell? ⟨w.heap.size, 1, none⟩ = some (.slice A n xc) := (belc hb (by omega)).trans HC1.out
        have e2 : wr.cell? ⟨w.heap.size + 1, 1, none⟩ = some (.slice B n yc) := (belc hb (by omega)).trans HD1.out
        by_cases hlt : k < n
        · obtain ⟨ab, ao, rfl, hlo, hat⟩ := hx.at_ (by omega)
          obtain ⟨bb, bo, rfl, hlo', hat'⟩ := hy.at_ (by omega)
          obtain ⟨x, hx⟩ : ∃ x, s[k]? = some x := ⟨_, List.getElem?_eq_getElem (by rw [HS.out]; exact hlt)⟩
          obtain ⟨y, hy⟩ : ∃ y, t[k]? = some y := ⟨_, List.getElem?_eq_getElem (by rw [HT.out]; exact hlt)⟩
          obtain ⟨xr, xn⟩ := x
          obtain ⟨yr, yn⟩ := y
          have c0 : wr.cell? ⟨ab, ao + k * 2, none⟩ = some (.bool xr) := (belc hbw hlo).trans (hat k _ hx 0 _ rfl)
          have c1 : wr.cell? ⟨ab, ao + k * 2 + 1, none⟩ = some (.int .i64 xn) := (belc hbw hlo).trans (hat k _ hx 1 _ rfl)
          have d0 : wr.cell? ⟨bb, bo + k * 2, none⟩ = some (.bool yr) := (belc hbw hlo').trans (hat' k _ hy 0 _ rfl)
          have d1 : wr.cell? ⟨bb, bo + k * 2 + 1, none⟩ = some (.int .i64 yn) := (belc hbw hlo').trans (hat' k _ hy 1 _ rfl)
          have HX := Lib.hid hx
          have HY := Lib.hid hy
          clear hat hat' hx hy
          by_cases hr : xr = yr
          · subst hr
            by_cases hn2 : xn = yn
            · subst hn2
              go_wp2
              go_quiet (fail)
              go_wp2
              go_roundw
              case rel =>
                refine ⟨k + 1, by omega, by go_num, Lib.hid (fun i hi => ?_), below_drewN hb _⟩
                by_cases hik : i = k
                · subst hik; rw [HX.out, HY.out]
                · exact hall.out i (by omega)
              case measure => simp [intOf]; omega
            · have HF := Lib.hid (show decide (s = t) = false from decide_eq_false (fun h => by have h1 := HX.out; rw [h, HY.out] at h1; injection h1 with h1; injection h1 with h1 h2; exact hn2 h2.symm))
              have g1 : (xn != yn) = true := by simp; exact hn2
              go_wp2
              go_quiet (fail)
              go_wp2
              go_ret
              exact ⟨by rw [HE.out, HF.out]; rfl, below_drewN hbw _⟩
          · have HF := Lib.hid (show decide (s = t) = false from decide_eq_false (fun h => by have h1 := HX.out; rw [h, HY.out] at h1; injection h1 with h1; injection h1 with h1 h2; exact hr h1.symm))
            cases xr <;> cases yr
            · exact absurd rfl hr
            · go_wp2
              go_quiet (fail)
              go_wp2
              go_ret
              exact ⟨by rw [HE.out, HF.out]; rfl, below_drewN hbw _⟩
            · go_wp2
              go_quiet (fail)
              go_wp2
              go_ret
              exact ⟨by rw [HE.out, HF.out]; rfl, below_drewN hbw _⟩
            · exact absurd rfl hr
        · obtain rfl : k = n := by omega
          have HF := Lib.hid (show decide (s = t) = true from decide_eq_true (ext_of HS.out HT.out hall.out))
          go_wp2
          go_ret
          exact ⟨by rw [HE.out, HF.out]; rfl, hbw⟩
    · have HE := Lib.hid (po_ne_s (x := ⟨xi, A, n, xc, s⟩) (y := ⟨xi, B, m, yc, t⟩) (fun h => hnm (by rw [← HS.out, ← HT.out]; exact congrArg List.length h)))
      have hne : ¬ (n : Int) = m := by omega
      go_enter Try.func17, Try.ntmps17
      go_wp2
      go_ret
      exact ⟨by rw [HE.out]; rfl, (by repeat (first | (with_reducible exact (Below.refl _ _)) | (with_reducible refine Below.drew ?_) | (with_reducible refine below_drewN ?_ _) | (with_reducible refine Below.setCell ?_ ?_ _; rotate_left; (first | omega | (simp <;> omega))) | (with_reducible refine Below.alloc ?_ ?_ _; rotate_left; (first | omega | (simp <;> omega)))))⟩
  · have HE := Lib.hid (po_ne_id (x := ⟨xi, A, n, xc, s⟩) (y := ⟨yi, B, m, yc, t⟩) hi)
    go_enter Try.func17, Try.ntmps17
    go_wp2
    go_ret
    exact ⟨by rw [HE.out]; rfl, (by repeat (first | (with_reducible exact (Below.refl _ _)) | (with_reducible refine Below.drew ?_) | (with_reducible refine below_drewN ?_ _) | (with_reducible refine Below.setCell ?_ ?_ _; rotate_left; (first | omega | (simp <;> omega))) | (with_reducible refine Below.alloc ?_ ?_ _; rotate_left; (first | omega | (simp <;> omega)))))⟩
end Go.Proofs.Ytohflngcgmcllaa
