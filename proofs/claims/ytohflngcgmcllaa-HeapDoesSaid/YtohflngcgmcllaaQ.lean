/- HeapDoes, walked. -/
import Derived.Test.YtohflngcgmcllaaJ
import Derived.Test.YtohflngcgmcllaaH
import Derived.Test.YtohflngcgmcllaaO
import Derived.Test.YtohflngcgmcllaaG
import Derived.Test.YtohflngcgmcllaaQ0
import Derived.Test.YtohflngcgmcllaaS4
import Derived.Test.YtohflngcgmcllaaEl
import Derived.Deep.DeepCutAuto
import Derived.Deep.RegionHeld3
import Derived.Deep.RegionWith
namespace Go.Proofs.Ytohflngcgmcllaa
open Go.RowKit

theorem put_len (o : PO) (L : List PO) : (putO o L).length ≤ L.length + 1 := by
  have := gt_le o.id L
  unfold putO
  split <;> simp <;> omega
theorem wrote_len (id f : Int) (v : Val) (L : List PO) : (wroteL id f v L).length ≤ L.length := by
  unfold wroteL writeO
  repeat (first | split | simp)

/-- What the walk holds of a world behind the head: the heap, an object with some identifier, a value. -/
structure Held (w W : World) (A : Option Addr) (n c : Nat) (o : Ob) (v : Val) : Prop where
  below : Below w.heap.size w W
  size : w.heap.size + 3 ≤ W.heap.size
  h : W.cell? ⟨w.heap.size, 0, none⟩ = some (.slice A n c)
  o1 : W.cell? ⟨w.heap.size + 1, 1, none⟩ = some (.slice o.A o.n o.c)
  v0 : W.cell? ⟨w.heap.size + 2, 0, none⟩ = some (.bool v.ref)
  v1 : W.cell? ⟨w.heap.size + 2, 1, none⟩ = some (.int .i64 v.n)

theorem Held.set {w W : World} {A : Option Addr} {n c : Nat} {o : Ob} {v : Val} (h : Held w W A n c o v) (u : Value) : Held w (W.setCell ⟨w.heap.size + 1, 0, none⟩ u) A n c o v :=
  ⟨h.below.setCell (by show _ ≤ w.heap.size + 1; omega) _, by have := h.size; simp; omega, (set_other _ _ _ _ (by simp)).trans h.h, (set_other _ _ _ _ (by simp)).trans h.o1, (set_other _ _ _ _ (by simp)).trans h.v0, (set_other _ _ _ _ (by simp)).trans h.v1⟩

set_option maxRecDepth 100000 in
set_option maxHeartbeats 16000000 in
theorem does_any (A : Option Addr) (n c : Nat) (l : List Ob) (o : Ob) (id fd : Int) (v : Val) (nr : Int) (w : World) (hs : OkHp w A n c l) (ho : OkOb w o) (hn0 : 0 ≤ nr) (hn1 : nr ≤ 255) :
    Calls Try.prog 3 #[.agg #[.slice A n c], .agg #[.int .i64 o.id, .slice o.A o.n o.c], .int .i64 id, .int .i64 fd, .agg #[.bool v.ref, .int .i64 v.n], .int .u8 nr] w fun e w' => e = .returned (.bool true) ∧ Below w.heap.size w w' := by
  have hfew := hs.few
  have HL := Lib.hid hs.hp.sl.len
  have hnc := hs.cap
  have HH := Lib.hid hs.hp
  have HO := Lib.hid ho.1
  have hon := ho.2.1
  obtain ⟨w1, hw1⟩ : ∃ w1, w1 = ((w.alloc (.cells #[.slice A n c] 24)).alloc (.cells #[.int .i64 o.id, .slice o.A o.n o.c] 27)).alloc (.cells #[.bool v.ref, .int .i64 v.n] 29) := ⟨_, rfl⟩
  have hb1 : Below w.heap.size w w1 := by rw [hw1]; exact (by repeat (first | (with_reducible exact (Below.refl _ _)) | (with_reducible refine Below.drew ?_) | (with_reducible refine below_drewN ?_ _) | (with_reducible refine Below.setCell ?_ ?_ _; rotate_left; (first | omega | (simp <;> omega))) | (with_reducible refine Below.alloc ?_ ?_ _; rotate_left; (first | omega | (simp <;> omega)))))
  have hz1 : w.heap.size + 3 ≤ w1.heap.size := by rw [hw1]; simp
  have K0 := Lib.hid (show w1.cell? ⟨w.heap.size, 0, none⟩ = some (.slice A n c) from by rw [hw1, cell_old _ _ _ _ (by simp <;> omega), cell_old _ _ _ _ (by simp), cell_new _ _ _ _ _ rfl]; rfl)
  have K1 := Lib.hid (show w1.cell? ⟨w.heap.size + 1, 0, none⟩ = some (.int .i64 o.id) from by rw [hw1, cell_old _ _ _ _ (by simp), cell_new _ _ _ _ _ (by simp)]; rfl)
  have K2 := Lib.hid (show w1.cell? ⟨w.heap.size + 1, 1, none⟩ = some (.slice o.A o.n o.c) from by rw [hw1, cell_old _ _ _ _ (by simp), cell_new _ _ _ _ _ (by simp)]; rfl)
  have K3 := Lib.hid (show w1.frozen? ⟨w.heap.size + 1, 0, none⟩ = false from by rw [hw1, frozen_old _ _ _ _ (by simp), frozen_new _ _ _ _ _ (by simp)])
  have K4 := Lib.hid (show w1.cell? ⟨w.heap.size + 2, 0, none⟩ = some (.bool v.ref) from by rw [hw1, cell_new _ _ _ _ _ (by simp)]; rfl)
  have K5 := Lib.hid (show w1.cell? ⟨w.heap.size + 2, 1, none⟩ = some (.int .i64 v.n) from by rw [hw1, cell_new _ _ _ _ _ (by simp)]; rfl)
  clear hs ho
  go_enter Try.func3, Try.ntmps3
  go_wp2_with fail
  rw [← hw1]
  have HW1 := Lib.hid hw1
  clear hw1
  refine (sane_any w1).mono ?_
  rintro e w2 ⟨rfl, hb2⟩
  have hz2 := hb2.size
  have a2 : w2.cell? ⟨w.heap.size, 0, none⟩ = some (.slice A n c) := (belc hb2 (by omega)).trans K0.out
  have HH2 := Lib.hid ((HH.out.up hb1).up hb2)
  go_wp2_with fail
  refine (big_any A n c l w2 HH2.out.sl (by omega) (fun o ho => by have := (HH2.out.obs o ho).2; omega)).mono ?_
  rintro e w3 ⟨b, rfl, hb3⟩
  have hz3 := hb3.size
  have b13 : Below w1.heap.size w1 w3 := hb2.trans (hb3.mono hz2)
  have bw3 : Below w.heap.size w w3 := hb1.trans (b13.mono hb1.size)
  have a3 : w3.cell? ⟨w.heap.size, 0, none⟩ = some (.slice A n c) := (belc b13 (by omega)).trans K0.out
  have o3 : w3.cell? ⟨w.heap.size + 1, 1, none⟩ = some (.slice o.A o.n o.c) := (belc b13 (by omega)).trans K2.out
  clear a2
  cases b with
  | true =>
    go_wp2
    go_ret
    exact ⟨rfl, bw3⟩
  | false =>
    by_cases h100 : 100 < o.n
    · have h100I : (100 : Int) < (o.n : Int) := by omega
      go_wp2
      go_ret
      exact ⟨rfl, bw3⟩
    · have h100I : ¬ (100 : Int) < (o.n : Int) := by omega
      have HELD : ∀ W, Below w3.heap.size w3 W → Held w W A n c o v := fun W hb => by
        have b1 : Below w1.heap.size w1 W := b13.trans (hb.mono b13.size)
        exact ⟨hb1.trans (b1.mono hb1.size), by have := b1.size; omega, (belc b1 (by omega)).trans K0.out, (belc b1 (by omega)).trans K2.out, (belc b1 (by omega)).trans K4.out, (belc b1 (by omega)).trans K5.out⟩
      go_upto_region 6 with fail
      go_cut [49] (fun s49 wx => s49 = .bool (decide (0 < n ∧ 0 < nr % 4)) ∧ wx = w3)
      case first =>
        as_aux_lemma =>
          by_cases hn : n = 0
          · subst hn
            go_wp2
            go_meet
            exact ⟨by simp, rfl⟩
          · have hnI : (0 : Int) < (n : Int) := by omega
            have hnN : 0 < n := by omega
            by_cases hr : nr % 4 = 0
            · have hr1 : nr.tmod 4 = 0 := by rw [Int.tmod_eq_emod_of_nonneg hn0]; exact hr
              go_wp2
              go_meet
              exact ⟨by simp [hr], rfl⟩
            · have hr1 : 0 < nr.tmod 4 := by rw [Int.tmod_eq_emod_of_nonneg hn0]; omega
              go_wp2
              go_meet
              exact ⟨by simp [hnN], rfl⟩
      case rest =>
      obtain ⟨rfl, rfl⟩ := hcut
      rename World => w3
      go_upto_if 49 with fail
      go_cut [2, 3] (fun s2 s3 W => ∃ (id' fd' oid : Int), s2 = .int .i64 id' ∧ s3 = .int .i64 fd' ∧ Held w W A n c o v ∧ W.cell? ⟨w.heap.size + 1, 0, none⟩ = some (.int .i64 oid))
      case first =>
        as_aux_lemma =>
          have o0 : w3.cell? ⟨w.heap.size + 1, 0, none⟩ = some (.int .i64 o.id) := (belc b13 (by omega)).trans K1.out
          have g0 : w3.frozen? ⟨w.heap.size + 1, 0, none⟩ = false := (belf b13 (by omega)).trans K3.out
          by_cases hg : 0 < n ∧ 0 < nr % 4
          · rw [decide_eq_true hg]
            obtain ⟨hg1, hg2⟩ := hg
            obtain ⟨i, hi⟩ : ∃ i : Nat, (nr / 4) % (n : Int) = i := ⟨((nr / 4) % (n : Int)).toNat, by have := Int.emod_nonneg (nr / 4) (show (n : Int) ≠ 0 by omega); omega⟩
            have hin : i < n := by have := Int.emod_lt_of_pos (nr / 4) (show (0 : Int) < n by omega); omega
            have htm : (nr / 4).tmod (n : Int) = i := by rw [Int.tmod_eq_emod_of_nonneg (by omega)]; exact hi
            have hinI : (i : Int) < (n : Int) := by omega
            have hnI : ¬ (n : Int) = 0 := by omega
            obtain ⟨x, hx⟩ : ∃ x, l[i]? = some x := ⟨_, List.getElem?_eq_getElem (by rw [HL.out]; exact hin)⟩
            obtain ⟨ab, ao, hA, hlo, hat⟩ := HH.out.sl.at_ (by omega)
            subst hA
            have c0 : w3.cell? ⟨ab, ao + i * 2, none⟩ = some (.int .i64 x.id) := (belc bw3 hlo).trans (hat i x hx 0 _ rfl)
            have c1 : w3.cell? ⟨ab, ao + i * 2 + 1, none⟩ = some (.slice x.A x.n x.c) := (belc bw3 hlo).trans (hat i x hx 1 _ rfl)
            have lab : ab < w3.heap.size := by have := bw3.size; omega
            have l0 : w.heap.size < w3.heap.size := by have := b13.size; omega
            have l1 : w.heap.size + 1 < w3.heap.size := by have := b13.size; omega
            clear hat hx hi
            go_wp2_with fail
            go_region
            obtain ⟨V, hV⟩ : ∃ V, V = (w3.alloc (.cells #[.int .i64 x.id, .slice x.A x.n x.c] 27)).drew := ⟨_, rfl⟩
            have hbV : Below w3.heap.size w3 V := by rw [hV]; exact (by repeat (first | (with_reducible exact (Below.refl _ _)) | (with_reducible refine Below.drew ?_) | (with_reducible refine below_drewN ?_ _) | (with_reducible refine Below.setCell ?_ ?_ _; rotate_left; (first | omega | (simp <;> omega))) | (with_reducible refine Below.alloc ?_ ?_ _; rotate_left; (first | omega | (simp <;> omega)))))
            have x0 : V.cell? ⟨w3.heap.size, 0, none⟩ = some (.int .i64 x.id) := by rw [hV]; show (w3.alloc _).cell? _ = _; rw [cell_new _ _ _ _ _ rfl]; rfl
            have x1 : V.cell? ⟨w3.heap.size, 1, none⟩ = some (.slice x.A x.n x.c) := by rw [hV]; show (w3.alloc _).cell? _ = _; rw [cell_new _ _ _ _ _ rfl]; rfl
            have o0V := (belc hbV l1).trans o0
            have g0V := (belf hbV l1).trans g0
            have HV := Lib.hid (HELD V hbV)
            rw [← hV]
            have HVE := Lib.hid hV
            clear hV c0 c1 o0 g0 a3 o3 HELD
            have hr4 : nr % 4 = 1 ∨ nr % 4 = 2 ∨ nr % 4 = 3 := by omega
            have hte := Int.tmod_eq_emod_of_nonneg (b := 4) hn0
            by_cases hx0 : x.n = 0
            · rw [hx0] at x1
              rcases hr4 with hr | hr | hr
              all_goals
                rw [hr] at hte
                go_wp2
                go_meet
                first
                  | exact ⟨_, _, _, rfl, rfl, HV.out, o0V⟩
                  | exact ⟨_, _, _, rfl, rfl, HV.out.set _, World.cell?_setCell_same _ _ _ o0V⟩
            · obtain ⟨j, hj⟩ : ∃ j : Nat, (nr / 16) % (x.n : Int) = j := ⟨((nr / 16) % (x.n : Int)).toNat, by have := Int.emod_nonneg (nr / 16) (show (x.n : Int) ≠ 0 by omega); omega⟩
              have hjn : j < x.n := by have := Int.emod_lt_of_pos (nr / 16) (show (0 : Int) < x.n by omega); omega
              have htm2 : (nr / 16).tmod (x.n : Int) = j := by rw [Int.tmod_eq_emod_of_nonneg (by omega)]; exact hj
              have hxI : ¬ (x.n : Int) = 0 := by omega
              have hxI2 : (0 : Int) < (x.n : Int) := by omega
              clear hj
              rcases hr4 with hr | hr | hr
              all_goals
                rw [hr] at hte
                go_wp2
                go_meet
                first
                  | exact ⟨_, _, _, rfl, rfl, HV.out, o0V⟩
                  | exact ⟨_, _, _, rfl, rfl, HV.out.set _, World.cell?_setCell_same _ _ _ o0V⟩
          · rw [decide_eq_false hg]
            go_wp2
            go_meet
            exact ⟨_, _, _, rfl, rfl, HELD _ (Below.refl _ _), o0⟩
      case rest =>
        obtain ⟨id', fd', oid, rfl, rfl, hheld, ho0⟩ := hcut
        rename World => W
        clear h100 h100I a3 o3
        have HHW := Lib.hid (HH.out.up hheld.below)
        have HOW := Lib.hid (HO.out.up hheld.below)
        have HC0 := Lib.hid hheld.h
        have HC1 := Lib.hid ho0
        have HC2 := Lib.hid hheld.o1
        have HC3 := Lib.hid hheld.v0
        have HC4 := Lib.hid hheld.v1
        have bwW := hheld.below
        have zW := hheld.size
        have F0 : Below W.heap.size W W := Below.refl _ _
        have q0 : W.cell? ⟨w.heap.size, 0, none⟩ = some (.slice A n c) := HC0.out
        have hPL := Lib.hid (show (wroteL id' fd' v (l.map Ob.po)).length ≤ n from by rw [← HL.out]; have := wrote_len id' fd' v (l.map Ob.po); rw [List.length_map] at this; exact this)
        clear hheld ho0
        go_wp2_with fail
        clear q0
        refine (keepheap_any A n c l W (HHW.out.up F0) hfew).mono ?_
        rintro e y1 ⟨Ak, nk, ck, lk, rfl, hpk, hnk, hHk, -, hy1⟩
        have zy1 := hy1.size
        have hpk' := Lib.hid hpk
        clear hpk
        have hnk' := Lib.hid hnk
        clear hnk
        have q1 : y1.cell? ⟨w.heap.size, 0, none⟩ = some (.slice A n c) := (belc (F0.trans (hy1.mono F0.size)) (by omega)).trans HC0.out
        have l1 : w.heap.size < y1.heap.size := by have := F0.size; omega
        obtain ⟨X1, hX1⟩ : ∃ X, X = y1.alloc (.cells #[(.slice Ak nk ck)] 24) := ⟨_, rfl⟩
        have hx1 : Below y1.heap.size y1 X1 := by rw [hX1]; exact (by repeat (first | (with_reducible exact (Below.refl _ _)) | (with_reducible refine Below.drew ?_) | (with_reducible refine below_drewN ?_ _) | (with_reducible refine Below.setCell ?_ ?_ _; rotate_left; (first | omega | (simp <;> omega))) | (with_reducible refine Below.alloc ?_ ?_ _; rotate_left; (first | omega | (simp <;> omega)))))
        have zX1 : y1.heap.size + 1 ≤ X1.heap.size := by rw [hX1]; simp
        have hb1 : Below W.heap.size W X1 := hy1.trans (hx1.mono zy1)
        have F1 := F0.trans (hb1.mono F0.size)
        have C1_0 := Lib.hid (show X1.cell? ⟨y1.heap.size, 0, none⟩ = some (.slice Ak nk ck) from by rw [hX1, cell_new _ _ _ _ _ rfl]; rfl)
        have hHk' := Lib.hid (hHk.out.up hx1)
        clear hHk
        go_wp2_with fail
        rw [← hX1]
        have HX1 := Lib.hid hX1
        clear hX1
        clear q1
        refine (get_any A n c l id' X1 (HHW.out.up F1) (by omega)).mono ?_
        rintro e y2 ⟨Aa, na, ca, rfl, hna, hSa, -, hy2⟩
        have zy2 := hy2.size
        have q2 : y2.cell? ⟨w.heap.size, 0, none⟩ = some (.slice A n c) := (belc (F1.trans (hy2.mono F1.size)) (by omega)).trans HC0.out
        have l2 : w.heap.size < y2.heap.size := by have := F1.size; omega
        obtain ⟨X2, hX2⟩ : ∃ X, X = y2.alloc (.cells #[(.int .i64 (getO id' (l.map Ob.po)).id), (.slice Aa na ca)] 27) := ⟨_, rfl⟩
        have hx2 : Below y2.heap.size y2 X2 := by rw [hX2]; exact (by repeat (first | (with_reducible exact (Below.refl _ _)) | (with_reducible refine Below.drew ?_) | (with_reducible refine below_drewN ?_ _) | (with_reducible refine Below.setCell ?_ ?_ _; rotate_left; (first | omega | (simp <;> omega))) | (with_reducible refine Below.alloc ?_ ?_ _; rotate_left; (first | omega | (simp <;> omega)))))
        have zX2 : y2.heap.size + 1 ≤ X2.heap.size := by rw [hX2]; simp
        have hb2 : Below X1.heap.size X1 X2 := hy2.trans (hx2.mono zy2)
        have F2 := F1.trans (hb2.mono F1.size)
        have C2_0 := Lib.hid (show X2.cell? ⟨y2.heap.size, 0, none⟩ = some (.int .i64 (getO id' (l.map Ob.po)).id) from by rw [hX2, cell_new _ _ _ _ _ rfl]; rfl)
        have C2_1 := Lib.hid (show X2.cell? ⟨y2.heap.size, 1, none⟩ = some (.slice Aa na ca) from by rw [hX2, cell_new _ _ _ _ _ rfl]; rfl)
        have hSa' := Lib.hid (hSa.out.up hx2)
        clear hSa
        go_wp2_with fail
        rw [← hX2]
        have HX2 := Lib.hid hX2
        clear hX2
        clear q2
        refine (refget_any A n c l id' X2 (HHW.out.up F2) (by omega)).mono ?_
        rintro e y3 ⟨Ab, nb, cb, rfl, hnb, hSb, -, hy3⟩
        have zy3 := hy3.size
        have q3 : y3.cell? ⟨w.heap.size, 0, none⟩ = some (.slice A n c) := (belc (F2.trans (hy3.mono F2.size)) (by omega)).trans HC0.out
        have l3 : w.heap.size < y3.heap.size := by have := F2.size; omega
        obtain ⟨X3, hX3⟩ : ∃ X, X = y3.alloc (.cells #[(.int .i64 (getO id' (l.map Ob.po)).id), (.slice Ab nb cb)] 27) := ⟨_, rfl⟩
        have hx3 : Below y3.heap.size y3 X3 := by rw [hX3]; exact (by repeat (first | (with_reducible exact (Below.refl _ _)) | (with_reducible refine Below.drew ?_) | (with_reducible refine below_drewN ?_ _) | (with_reducible refine Below.setCell ?_ ?_ _; rotate_left; (first | omega | (simp <;> omega))) | (with_reducible refine Below.alloc ?_ ?_ _; rotate_left; (first | omega | (simp <;> omega)))))
        have zX3 : y3.heap.size + 1 ≤ X3.heap.size := by rw [hX3]; simp
        have hb3 : Below X2.heap.size X2 X3 := hy3.trans (hx3.mono zy3)
        have F3 := F2.trans (hb3.mono F2.size)
        have C3_0 := Lib.hid (show X3.cell? ⟨y3.heap.size, 0, none⟩ = some (.int .i64 (getO id' (l.map Ob.po)).id) from by rw [hX3, cell_new _ _ _ _ _ rfl]; rfl)
        have C3_1 := Lib.hid (show X3.cell? ⟨y3.heap.size, 1, none⟩ = some (.slice Ab nb cb) from by rw [hX3, cell_new _ _ _ _ _ rfl]; rfl)
        have hSb' := Lib.hid (hSb.out.up hx3)
        clear hSb
        go_wp2_with fail
        rw [← hX3]
        have HX3 := Lib.hid hX3
        clear hX3
        clear q3
        refine (read_any A n c l id' fd' X3 (HHW.out.up F3) (by omega)).mono ?_
        rintro e y4 ⟨rfl, hy4⟩
        have zy4 := hy4.size
        have q4 : y4.cell? ⟨w.heap.size, 0, none⟩ = some (.slice A n c) := (belc (F3.trans (hy4.mono F3.size)) (by omega)).trans HC0.out
        have l4 : w.heap.size < y4.heap.size := by have := F3.size; omega
        obtain ⟨X4, hX4⟩ : ∃ X, X = y4.alloc (.cells #[(.bool (readD id' fd' (l.map Ob.po)).ref), (.int .i64 (readD id' fd' (l.map Ob.po)).n)] 29) := ⟨_, rfl⟩
        have hx4 : Below y4.heap.size y4 X4 := by rw [hX4]; exact (by repeat (first | (with_reducible exact (Below.refl _ _)) | (with_reducible refine Below.drew ?_) | (with_reducible refine below_drewN ?_ _) | (with_reducible refine Below.setCell ?_ ?_ _; rotate_left; (first | omega | (simp <;> omega))) | (with_reducible refine Below.alloc ?_ ?_ _; rotate_left; (first | omega | (simp <;> omega)))))
        have zX4 : y4.heap.size + 1 ≤ X4.heap.size := by rw [hX4]; simp
        have hb4 : Below X3.heap.size X3 X4 := hy4.trans (hx4.mono zy4)
        have F4 := F3.trans (hb4.mono F3.size)
        have C4_0 := Lib.hid (show X4.cell? ⟨y4.heap.size, 0, none⟩ = some (.bool (readD id' fd' (l.map Ob.po)).ref) from by rw [hX4, cell_new _ _ _ _ _ rfl]; rfl)
        have C4_1 := Lib.hid (show X4.cell? ⟨y4.heap.size, 1, none⟩ = some (.int .i64 (readD id' fd' (l.map Ob.po)).n) from by rw [hX4, cell_new _ _ _ _ _ rfl]; rfl)
        go_wp2_with fail
        rw [← hX4]
        have HX4 := Lib.hid hX4
        clear hX4
        clear q4
        refine (refread_any A n c l id' fd' X4 (HHW.out.up F4) (by omega)).mono ?_
        rintro e y5 ⟨rfl, hy5⟩
        have zy5 := hy5.size
        have q5 : y5.cell? ⟨w.heap.size, 0, none⟩ = some (.slice A n c) := (belc (F4.trans (hy5.mono F4.size)) (by omega)).trans HC0.out
        have r5 : y5.cell? ⟨w.heap.size + 2, 0, none⟩ = some (.bool v.ref) := (belc (F4.trans (hy5.mono F4.size)) (by omega)).trans HC3.out
        have t5 : y5.cell? ⟨w.heap.size + 2, 1, none⟩ = some (.int .i64 v.n) := (belc (F4.trans (hy5.mono F4.size)) (by omega)).trans HC4.out
        have lv5 : w.heap.size + 2 < y5.heap.size := by have := F4.size; omega
        have l5 : w.heap.size < y5.heap.size := by have := F4.size; omega
        obtain ⟨X5, hX5⟩ : ∃ X, X = y5.alloc (.cells #[(.bool (readD id' fd' (l.map Ob.po)).ref), (.int .i64 (readD id' fd' (l.map Ob.po)).n)] 29) := ⟨_, rfl⟩
        have hx5 : Below y5.heap.size y5 X5 := by rw [hX5]; exact (by repeat (first | (with_reducible exact (Below.refl _ _)) | (with_reducible refine Below.drew ?_) | (with_reducible refine below_drewN ?_ _) | (with_reducible refine Below.setCell ?_ ?_ _; rotate_left; (first | omega | (simp <;> omega))) | (with_reducible refine Below.alloc ?_ ?_ _; rotate_left; (first | omega | (simp <;> omega)))))
        have zX5 : y5.heap.size + 1 ≤ X5.heap.size := by rw [hX5]; simp
        have hb5 : Below X4.heap.size X4 X5 := hy5.trans (hx5.mono zy5)
        have F5 := F4.trans (hb5.mono F4.size)
        have C5_0 := Lib.hid (show X5.cell? ⟨y5.heap.size, 0, none⟩ = some (.bool (readD id' fd' (l.map Ob.po)).ref) from by rw [hX5, cell_new _ _ _ _ _ rfl]; rfl)
        have C5_1 := Lib.hid (show X5.cell? ⟨y5.heap.size, 1, none⟩ = some (.int .i64 (readD id' fd' (l.map Ob.po)).n) from by rw [hX5, cell_new _ _ _ _ _ rfl]; rfl)
        go_wp2_with fail
        rw [← hX5]
        have HX5 := Lib.hid hX5
        clear hX5
        clear q5 r5 t5
        refine (write_any A n c l id' fd' v X5 (HHW.out.up F5) hfew).mono ?_
        rintro e y6 ⟨Aw, nw, cw, lw, rfl, hpw, hnw, hHw, -, hy6⟩
        have zy6 := hy6.size
        have hpw' := Lib.hid hpw
        clear hpw
        have hnw' := Lib.hid hnw
        clear hnw
        have q6 : y6.cell? ⟨w.heap.size, 0, none⟩ = some (.slice A n c) := (belc (F5.trans (hy6.mono F5.size)) (by omega)).trans HC0.out
        have r6 : y6.cell? ⟨w.heap.size + 2, 0, none⟩ = some (.bool v.ref) := (belc (F5.trans (hy6.mono F5.size)) (by omega)).trans HC3.out
        have t6 : y6.cell? ⟨w.heap.size + 2, 1, none⟩ = some (.int .i64 v.n) := (belc (F5.trans (hy6.mono F5.size)) (by omega)).trans HC4.out
        have lv6 : w.heap.size + 2 < y6.heap.size := by have := F5.size; omega
        have l6 : w.heap.size < y6.heap.size := by have := F5.size; omega
        obtain ⟨X6, hX6⟩ : ∃ X, X = y6.alloc (.cells #[(.slice Aw nw cw)] 24) := ⟨_, rfl⟩
        have hx6 : Below y6.heap.size y6 X6 := by rw [hX6]; exact (by repeat (first | (with_reducible exact (Below.refl _ _)) | (with_reducible refine Below.drew ?_) | (with_reducible refine below_drewN ?_ _) | (with_reducible refine Below.setCell ?_ ?_ _; rotate_left; (first | omega | (simp <;> omega))) | (with_reducible refine Below.alloc ?_ ?_ _; rotate_left; (first | omega | (simp <;> omega)))))
        have zX6 : y6.heap.size + 1 ≤ X6.heap.size := by rw [hX6]; simp
        have hb6 : Below X5.heap.size X5 X6 := hy6.trans (hx6.mono zy6)
        have F6 := F5.trans (hb6.mono F5.size)
        have C6_0 := Lib.hid (show X6.cell? ⟨y6.heap.size, 0, none⟩ = some (.slice Aw nw cw) from by rw [hX6, cell_new _ _ _ _ _ rfl]; rfl)
        have hHw' := Lib.hid (hHw.out.up hx6)
        clear hHw
        go_wp2_with fail
        rw [← hX6]
        have HX6 := Lib.hid hX6
        clear hX6
        clear q6 r6 t6
        refine (refwrite_any A n c l id' fd' v X6 (HHW.out.up F6) hfew).mono ?_
        rintro e y7 ⟨Az, nz, cz, lz, rfl, hpz, hnz, hHz, -, hy7⟩
        have zy7 := hy7.size
        have hpz' := Lib.hid hpz
        clear hpz
        have hnz' := Lib.hid hnz
        clear hnz
        have q7 : y7.cell? ⟨w.heap.size, 0, none⟩ = some (.slice A n c) := (belc (F6.trans (hy7.mono F6.size)) (by omega)).trans HC0.out
        have l7 : w.heap.size < y7.heap.size := by have := F6.size; omega
        obtain ⟨X7, hX7⟩ : ∃ X, X = y7.alloc (.cells #[(.slice Az nz cz)] 24) := ⟨_, rfl⟩
        have hx7 : Below y7.heap.size y7 X7 := by rw [hX7]; exact (by repeat (first | (with_reducible exact (Below.refl _ _)) | (with_reducible refine Below.drew ?_) | (with_reducible refine below_drewN ?_ _) | (with_reducible refine Below.setCell ?_ ?_ _; rotate_left; (first | omega | (simp <;> omega))) | (with_reducible refine Below.alloc ?_ ?_ _; rotate_left; (first | omega | (simp <;> omega)))))
        have zX7 : y7.heap.size + 1 ≤ X7.heap.size := by rw [hX7]; simp
        have hb7 : Below X6.heap.size X6 X7 := hy7.trans (hx7.mono zy7)
        have F7 := F6.trans (hb7.mono F6.size)
        have C7_0 := Lib.hid (show X7.cell? ⟨y7.heap.size, 0, none⟩ = some (.slice Az nz cz) from by rw [hX7, cell_new _ _ _ _ _ rfl]; rfl)
        have hHz' := Lib.hid (hHz.out.up hx7)
        clear hHz
        go_wp2_with fail
        rw [← hX7]
        have HX7 := Lib.hid hX7
        clear hX7 q7
        have a7 : X7.cell? ⟨w.heap.size, 0, none⟩ = some (.slice A n c) := (belc F7 (by omega)).trans HC0.out
        have o7 : X7.cell? ⟨w.heap.size + 1, 0, none⟩ = some (.int .i64 oid) := (belc F7 (by omega)).trans HC1.out
        have k7 : X7.cell? ⟨w.heap.size + 1, 1, none⟩ = some (.slice o.A o.n o.c) := (belc F7 (by omega)).trans HC2.out
        have HHU := Lib.hid (HHW.out.up F7)
        have OOU := Lib.hid (HOW.out.up F7)
        have z7 : w.heap.size + 3 ≤ X7.heap.size := by have := F7.size; omega
        have hF7 := Lib.hid F7
        have E7 : Below X7.heap.size X7 X7 := Below.refl _ _
        have E6 := hb7.trans (E7.mono hb7.size)
        have E5 := hb6.trans (E6.mono hb6.size)
        have E4 := hb5.trans (E5.mono hb5.size)
        have E3 := hb4.trans (E4.mono hb4.size)
        have E2 := hb3.trans (E3.mono hb3.size)
        have E1 := hb2.trans (E2.mono hb2.size)
        have e1 : y1.heap.size < X7.heap.size := by have := E1.size; omega
        have D1_0 := Lib.hid ((belc E1 (by omega)).trans C1_0.out)
        have e2 : y2.heap.size < X7.heap.size := by have := E2.size; omega
        have D2_0 := Lib.hid ((belc E2 (by omega)).trans C2_0.out)
        have D2_1 := Lib.hid ((belc E2 (by omega)).trans C2_1.out)
        have e3 : y3.heap.size < X7.heap.size := by have := E3.size; omega
        have D3_0 := Lib.hid ((belc E3 (by omega)).trans C3_0.out)
        have D3_1 := Lib.hid ((belc E3 (by omega)).trans C3_1.out)
        have e4 : y4.heap.size < X7.heap.size := by have := E4.size; omega
        have D4_0 := Lib.hid ((belc E4 (by omega)).trans C4_0.out)
        have D4_1 := Lib.hid ((belc E4 (by omega)).trans C4_1.out)
        have e5 : y5.heap.size < X7.heap.size := by have := E5.size; omega
        have D5_0 := Lib.hid ((belc E5 (by omega)).trans C5_0.out)
        have D5_1 := Lib.hid ((belc E5 (by omega)).trans C5_1.out)
        have e6 : y6.heap.size < X7.heap.size := by have := E6.size; omega
        have D6_0 := Lib.hid ((belc E6 (by omega)).trans C6_0.out)
        have e7 : y7.heap.size < X7.heap.size := by have := E7.size; omega
        have D7_0 := Lib.hid ((belc E7 (by omega)).trans C7_0.out)
        have Hk7 := Lib.hid (hHk'.out.up E1)
        have Sa7 := Lib.hid (hSa'.out.up E2)
        have Sb7 := Lib.hid (hSb'.out.up E3)
        have Hw7 := Lib.hid (hHw'.out.up E6)
        clear E1 E2 E3 E4 E5 E6 E7 C1_0 C2_0 C2_1 C3_0 C3_1 C4_0 C4_1 C5_0 C5_1 C6_0 C7_0 hHk' hSa' hSb' hHw'
        clear F0 F1 F2 F3 F4 F5 F6 F7 hb1 hb2 hb3 hb4 hb5 hb6 hb7 zy1 zy2 zy3 zy4 zy5 zy6 zy7 zX1 zX2 zX3 zX4 zX5 zX6 zX7
        go_cut [28, 29] (fun s28 s29 wx => Two X7 (putO ⟨oid, o.s⟩ (l.map Ob.po)) s28 s29 wx)
        case first =>
          as_aux_lemma =>
            have KT := Lib.hid (show ∀ w', Below X7.heap.size X7 w' → (fun w' : World => w'.cell? ⟨w.heap.size, 0, none⟩ = some (.slice A n c) ∧ w'.cell? ⟨w.heap.size + 1, 0, none⟩ = some (.int .i64 oid) ∧ w'.cell? ⟨w.heap.size + 1, 1, none⟩ = some (.slice o.A o.n o.c)) w' from fun w' hb => ⟨(belc hb (by omega)).trans a7, (belc hb (by omega)).trans o7, (belc hb (by omega)).trans k7⟩)
            clear e1 e2 e3 e4 e5 e6 e7 l1 l2 l3 l4 l5 l6 l7 lv5 lv6 hna hnb hn0 hn1 hb1 hz1 zW hy1 hy2 hy3 hy4 hy5 hy6 hy7 hx1 hx2 hx3 hx4 hx5 hx6 hx7 hb2 hb3
            go_region_held3 (fun w' => w'.cell? ⟨w.heap.size, 0, none⟩ = some (.slice A n c) ∧ w'.cell? ⟨w.heap.size + 1, 0, none⟩ = some (.int .i64 oid) ∧ w'.cell? ⟨w.heap.size + 1, 1, none⟩ = some (.slice o.A o.n o.c))
              (first
                | (refine KT.out _ ?_; (repeat (first | (with_reducible exact (Below.refl _ _)) | (with_reducible refine Below.drew ?_) | (with_reducible refine Below.setCell ?_ ?_ _; rotate_left; (first | omega | (simp <;> omega))) | (with_reducible refine Below.alloc ?_ ?_ _; rotate_left; (first | omega | (simp <;> omega))))); done)
                | (refine KT.out _ ?_; (repeat (first | (with_reducible exact hYU) | (with_reducible refine Below.drew ?_) | (with_reducible refine Below.setCell ?_ ?_ _; rotate_left; (first | omega | (simp <;> omega))) | (with_reducible refine Below.alloc ?_ ?_ _; rotate_left; (first | omega | (simp <;> omega))))); done)
                | (refine KT.out _ ?_; (repeat (first | (with_reducible exact hUZ) | (with_reducible refine Below.drew ?_) | (with_reducible refine Below.setCell ?_ ?_ _; rotate_left; (first | omega | (simp <;> omega))) | (with_reducible refine Below.alloc ?_ ?_ _; rotate_left; (first | omega | (simp <;> omega))))); done))
              (first
                | (go_at_call 15; refine (put_any A n c l ⟨oid, o.A, o.n, o.c, o.s⟩ _ (HHU.out.up (by repeat (first | (with_reducible exact (Below.refl _ _)) | (with_reducible refine Below.drew ?_) | (with_reducible refine below_drewN ?_ _) | (with_reducible refine Below.setCell ?_ ?_ _; rotate_left; (first | omega | (simp <;> omega))) | (with_reducible refine Below.alloc ?_ ?_ _; rotate_left; (first | omega | (simp <;> omega)))))) (OOU.out.up (by repeat (first | (with_reducible exact (Below.refl _ _)) | (with_reducible refine Below.drew ?_) | (with_reducible refine below_drewN ?_ _) | (with_reducible refine Below.setCell ?_ ?_ _; rotate_left; (first | omega | (simp <;> omega))) | (with_reducible refine Below.alloc ?_ ?_ _; rotate_left; (first | omega | (simp <;> omega)))))) hfew hon).mono ?_; rintro e Y ⟨Ap, np, cp, lp, rfl, hpp, hnp, hHp, hFp, hyp⟩; have HPP := Lib.hid hpp; have HNP := Lib.hid hnp; clear hpp hnp; have hYU : Below X7.heap.size X7 Y := Below.trans (by repeat (first | (with_reducible exact (Below.refl _ _)) | (with_reducible refine Below.drew ?_) | (with_reducible refine below_drewN ?_ _) | (with_reducible refine Below.setCell ?_ ?_ _; rotate_left; (first | omega | (simp <;> omega))) | (with_reducible refine Below.alloc ?_ ?_ _; rotate_left; (first | omega | (simp <;> omega))))) (hyp.mono (by first | exact Nat.le_refl _ | (show _ ≤ (X7.alloc _).heap.size; simp <;> omega) | (show _ ≤ ((X7.alloc _).alloc _).heap.size; simp <;> omega))); have hzY := hYU.size; (try (have yc0 : Y.cell? ⟨X7.heap.size, 0, none⟩ = some (.slice none 0 0) := (belc hyp (by first | omega | (simp <;> omega) | (show _ < (X7.alloc _).heap.size; simp <;> omega) | (show _ < ((X7.alloc _).alloc _).heap.size; simp <;> omega))).trans (by first | (show (X7.alloc _).cell? _ = _; rw [cell_new _ _ _ _ _ (by simp)]; rfl) | (show ((X7.alloc _).alloc _).cell? _ = _; rw [cell_old _ _ _ _ (by simp), cell_new _ _ _ _ _ (by simp)]; rfl)))); (try (have yf0 : Y.frozen? ⟨X7.heap.size, 0, none⟩ = false := (belf hyp (by first | omega | (simp <;> omega) | (show _ < (X7.alloc _).heap.size; simp <;> omega) | (show _ < ((X7.alloc _).alloc _).heap.size; simp <;> omega))).trans (by first | (show (X7.alloc _).frozen? _ = _; rw [frozen_new _ _ _ _ _ (by simp)]) | (show ((X7.alloc _).alloc _).frozen? _ = _; rw [frozen_old _ _ _ _ (by simp), frozen_new _ _ _ _ _ (by simp)])))); (try (have yl0 : X7.heap.size < Y.heap.size := World.block_lt_of_cell? Y _ yc0)); (try (have yc1 : Y.cell? ⟨X7.heap.size + 1, 0, none⟩ = some (.slice none 0 0) := (belc hyp (by first | omega | (simp <;> omega) | (show _ < (X7.alloc _).heap.size; simp <;> omega) | (show _ < ((X7.alloc _).alloc _).heap.size; simp <;> omega))).trans (by first | (show (X7.alloc _).cell? _ = _; rw [cell_new _ _ _ _ _ (by simp)]; rfl) | (show ((X7.alloc _).alloc _).cell? _ = _; rw [cell_new _ _ _ _ _ (by simp)]; rfl)))); (try (have yf1 : Y.frozen? ⟨X7.heap.size + 1, 0, none⟩ = false := (belf hyp (by first | omega | (simp <;> omega) | (show _ < (X7.alloc _).heap.size; simp <;> omega) | (show _ < ((X7.alloc _).alloc _).heap.size; simp <;> omega))).trans (by first | (show (X7.alloc _).frozen? _ = _; rw [frozen_new _ _ _ _ _ (by simp)]) | (show ((X7.alloc _).alloc _).frozen? _ = _; rw [frozen_new _ _ _ _ _ (by simp)])))); (try (have yl1 : X7.heap.size + 1 < Y.heap.size := World.block_lt_of_cell? Y _ yc1)))
                | (go_at_call 16; refine (refput_any A n c l ⟨oid, o.A, o.n, o.c, o.s⟩ X7.heap.size _ (HHU.out.below (by repeat (first | (with_reducible exact hYU) | (with_reducible refine Below.drew ?_) | (with_reducible refine below_drewN ?_ _) | (with_reducible refine Below.setCell ?_ ?_ _; rotate_left; (first | omega | (simp <;> omega))) | (with_reducible refine Below.alloc ?_ ?_ _; rotate_left; (first | omega | (simp <;> omega)))))) (by first | exact hzY | (simp <;> omega)) hnc ((OOU.out.below (by repeat (first | (with_reducible exact hYU) | (with_reducible refine Below.drew ?_) | (with_reducible refine below_drewN ?_ _) | (with_reducible refine Below.setCell ?_ ?_ _; rotate_left; (first | omega | (simp <;> omega))) | (with_reducible refine Below.alloc ?_ ?_ _; rotate_left; (first | omega | (simp <;> omega)))))).mono (by first | exact hzY | (simp <;> omega))) hfew hon).mono ?_; rintro e Z ⟨Aq, nq, cq, lq, rfl, hpq, hnq, hHq, hFq, hzq⟩; have HPQ := Lib.hid hpq; have HNQ := Lib.hid hnq; clear hpq hnq; have hYZ : Below Y.heap.size Y Z := Below.trans (by repeat (first | (with_reducible exact (Below.refl _ _)) | (with_reducible refine Below.drew ?_) | (with_reducible refine below_drewN ?_ _) | (with_reducible refine Below.setCell ?_ ?_ _; rotate_left; (first | omega | (simp <;> omega))) | (with_reducible refine Below.alloc ?_ ?_ _; rotate_left; (first | omega | (simp <;> omega))))) (hzq.mono (by first | exact Nat.le_refl _ | (simp <;> omega))); have hzZ := hYZ.size; have hUZ : Below X7.heap.size X7 Z := hYU.trans (hYZ.mono hYU.size); (try (have zc0 := (belc hYZ (by have := World.block_lt_of_cell? Y _ yc0; exact this)).trans yc0)); (try (have zf0 := (belf hYZ (by have := World.block_lt_of_cell? Y _ yc0; exact this)).trans yf0)); (try (have zl0 : X7.heap.size < Z.heap.size := World.block_lt_of_cell? Z _ zc0)); (try (have zc1 := (belc hYZ (by have := World.block_lt_of_cell? Y _ yc1; exact this)).trans yc1)); (try (have zf1 := (belf hYZ (by have := World.block_lt_of_cell? Y _ yc1; exact this)).trans yf1)); (try (have zl1 : X7.heap.size + 1 < Z.heap.size := World.block_lt_of_cell? Z _ zc1)); (try (have uc0 : Z.cell? ⟨Y.heap.size, 0, none⟩ = some (.slice none 0 0) := (belc hzq (by first | omega | (simp <;> omega) | (show _ < (X7.alloc _).heap.size; simp <;> omega) | (show _ < ((X7.alloc _).alloc _).heap.size; simp <;> omega))).trans (by first | (show (Y.alloc _).cell? _ = _; rw [cell_new _ _ _ _ _ (by simp)]; rfl) | (show ((Y.alloc _).alloc _).cell? _ = _; rw [cell_old _ _ _ _ (by simp), cell_new _ _ _ _ _ (by simp)]; rfl)))); (try (have uf0 : Z.frozen? ⟨Y.heap.size, 0, none⟩ = false := (belf hzq (by first | omega | (simp <;> omega) | (show _ < (X7.alloc _).heap.size; simp <;> omega) | (show _ < ((X7.alloc _).alloc _).heap.size; simp <;> omega))).trans (by first | (show (Y.alloc _).frozen? _ = _; rw [frozen_new _ _ _ _ _ (by simp)]) | (show ((Y.alloc _).alloc _).frozen? _ = _; rw [frozen_old _ _ _ _ (by simp), frozen_new _ _ _ _ _ (by simp)])))); (try (have ul0 : Y.heap.size < Z.heap.size := World.block_lt_of_cell? Z _ uc0)); (try (have uc1 : Z.cell? ⟨Y.heap.size + 1, 0, none⟩ = some (.slice none 0 0) := (belc hzq (by first | omega | (simp <;> omega) | (show _ < (X7.alloc _).heap.size; simp <;> omega) | (show _ < ((X7.alloc _).alloc _).heap.size; simp <;> omega))).trans (by first | (show (Y.alloc _).cell? _ = _; rw [cell_new _ _ _ _ _ (by simp)]; rfl) | (show ((Y.alloc _).alloc _).cell? _ = _; rw [cell_new _ _ _ _ _ (by simp)]; rfl)))); (try (have uf1 : Z.frozen? ⟨Y.heap.size + 1, 0, none⟩ = false := (belf hzq (by first | omega | (simp <;> omega) | (show _ < (X7.alloc _).heap.size; simp <;> omega) | (show _ < ((X7.alloc _).alloc _).heap.size; simp <;> omega))).trans (by first | (show (Y.alloc _).frozen? _ = _; rw [frozen_new _ _ _ _ _ (by simp)]) | (show ((Y.alloc _).alloc _).frozen? _ = _; rw [frozen_new _ _ _ _ _ (by simp)])))); (try (have ul1 : Y.heap.size + 1 < Z.heap.size := World.block_lt_of_cell? Z _ uc1))))
            all_goals
              go_wp2
              go_meet
              have HPZ := Lib.hid (hHp.out.up hYZ)
              first
                | exact two_aa hUZ HPZ.out hHq.out HNP HNQ HPP HPQ
                | exact two_aa' hUZ HPZ.out hHq.out HNP HNQ HPP HPQ
                | exact two_sa hUZ HPZ.out hHq.out HNP HNQ HPP HPQ (by omega) zc0 (notin_p hHp.out hFp.out (by first | exact .inr (Nat.le_refl _) | exact .inr (by omega) | exact .inl (by show _ < (X7.alloc _).heap.size; simp <;> omega) | exact .inl (by show _ < ((X7.alloc _).alloc _).heap.size; simp <;> omega))) (notin_q hFq.out (by omega) (by first | omega | (simp <;> omega)))
                | exact two_sa hUZ HPZ.out hHq.out HNP HNQ HPP HPQ (by omega) uc0 (notin_p hHp.out hFp.out (by first | exact .inr (Nat.le_refl _) | exact .inr (by omega) | exact .inl (by show _ < (X7.alloc _).heap.size; simp <;> omega) | exact .inl (by show _ < ((X7.alloc _).alloc _).heap.size; simp <;> omega))) (notin_q hFq.out (by omega) (by first | omega | (simp <;> omega)))
                | exact two_as hUZ HPZ.out hHq.out HNP HNQ HPP HPQ (by omega) zc0 (notin_p hHp.out hFp.out (by first | exact .inr (Nat.le_refl _) | exact .inr (by omega) | exact .inl (by show _ < (X7.alloc _).heap.size; simp <;> omega) | exact .inl (by show _ < ((X7.alloc _).alloc _).heap.size; simp <;> omega))) (notin_q hFq.out (by omega) (by first | omega | (simp <;> omega)))
                | exact two_as hUZ HPZ.out hHq.out HNP HNQ HPP HPQ (by omega) uc0 (notin_p hHp.out hFp.out (by first | exact .inr (Nat.le_refl _) | exact .inr (by omega) | exact .inl (by show _ < (X7.alloc _).heap.size; simp <;> omega) | exact .inl (by show _ < ((X7.alloc _).alloc _).heap.size; simp <;> omega))) (notin_q hFq.out (by omega) (by first | omega | (simp <;> omega)))
                | exact two_ss hUZ HPZ.out hHq.out HNP HNQ HPP HPQ (by omega) (by omega) (by omega) zc0 zc1 (notin_p hHp.out hFp.out (by first | exact .inr (Nat.le_refl _) | exact .inr (by omega) | exact .inl (by show _ < (X7.alloc _).heap.size; simp <;> omega) | exact .inl (by show _ < ((X7.alloc _).alloc _).heap.size; simp <;> omega))) (notin_q hFq.out (by omega) (by first | omega | (simp <;> omega))) (notin_p hHp.out hFp.out (by first | exact .inr (Nat.le_refl _) | exact .inr (by omega) | exact .inl (by show _ < (X7.alloc _).heap.size; simp <;> omega) | exact .inl (by show _ < ((X7.alloc _).alloc _).heap.size; simp <;> omega))) (notin_q hFq.out (by omega) (by first | omega | (simp <;> omega)))
                | exact two_ss hUZ HPZ.out hHq.out HNP HNQ HPP HPQ (by omega) (by omega) (by omega) zc1 zc0 (notin_p hHp.out hFp.out (by first | exact .inr (Nat.le_refl _) | exact .inr (by omega) | exact .inl (by show _ < (X7.alloc _).heap.size; simp <;> omega) | exact .inl (by show _ < ((X7.alloc _).alloc _).heap.size; simp <;> omega))) (notin_q hFq.out (by omega) (by first | omega | (simp <;> omega))) (notin_p hHp.out hFp.out (by first | exact .inr (Nat.le_refl _) | exact .inr (by omega) | exact .inl (by show _ < (X7.alloc _).heap.size; simp <;> omega) | exact .inl (by show _ < ((X7.alloc _).alloc _).heap.size; simp <;> omega))) (notin_q hFq.out (by omega) (by first | omega | (simp <;> omega)))
                | exact two_ss hUZ HPZ.out hHq.out HNP HNQ HPP HPQ (by omega) (by omega) (by omega) uc0 uc1 (notin_p hHp.out hFp.out (by first | exact .inr (Nat.le_refl _) | exact .inr (by omega) | exact .inl (by show _ < (X7.alloc _).heap.size; simp <;> omega) | exact .inl (by show _ < ((X7.alloc _).alloc _).heap.size; simp <;> omega))) (notin_q hFq.out (by omega) (by first | omega | (simp <;> omega))) (notin_p hHp.out hFp.out (by first | exact .inr (Nat.le_refl _) | exact .inr (by omega) | exact .inl (by show _ < (X7.alloc _).heap.size; simp <;> omega) | exact .inl (by show _ < ((X7.alloc _).alloc _).heap.size; simp <;> omega))) (notin_q hFq.out (by omega) (by first | omega | (simp <;> omega)))
                | exact two_ss hUZ HPZ.out hHq.out HNP HNQ HPP HPQ (by omega) (by omega) (by omega) uc1 uc0 (notin_p hHp.out hFp.out (by first | exact .inr (Nat.le_refl _) | exact .inr (by omega) | exact .inl (by show _ < (X7.alloc _).heap.size; simp <;> omega) | exact .inl (by show _ < ((X7.alloc _).alloc _).heap.size; simp <;> omega))) (notin_q hFq.out (by omega) (by first | omega | (simp <;> omega))) (notin_p hHp.out hFp.out (by first | exact .inr (Nat.le_refl _) | exact .inr (by omega) | exact .inl (by show _ < (X7.alloc _).heap.size; simp <;> omega) | exact .inl (by show _ < ((X7.alloc _).alloc _).heap.size; simp <;> omega))) (notin_q hFq.out (by omega) (by first | omega | (simp <;> omega)))
                | exact two_ss hUZ HPZ.out hHq.out HNP HNQ HPP HPQ (by omega) (by omega) (by omega) zc0 uc0 (notin_p hHp.out hFp.out (by first | exact .inr (Nat.le_refl _) | exact .inr (by omega) | exact .inl (by show _ < (X7.alloc _).heap.size; simp <;> omega) | exact .inl (by show _ < ((X7.alloc _).alloc _).heap.size; simp <;> omega))) (notin_q hFq.out (by omega) (by first | omega | (simp <;> omega))) (notin_p hHp.out hFp.out (by first | exact .inr (Nat.le_refl _) | exact .inr (by omega) | exact .inl (by show _ < (X7.alloc _).heap.size; simp <;> omega) | exact .inl (by show _ < ((X7.alloc _).alloc _).heap.size; simp <;> omega))) (notin_q hFq.out (by omega) (by first | omega | (simp <;> omega)))
                | exact two_ss hUZ HPZ.out hHq.out HNP HNQ HPP HPQ (by omega) (by omega) (by omega) uc0 zc0 (notin_p hHp.out hFp.out (by first | exact .inr (Nat.le_refl _) | exact .inr (by omega) | exact .inl (by show _ < (X7.alloc _).heap.size; simp <;> omega) | exact .inl (by show _ < ((X7.alloc _).alloc _).heap.size; simp <;> omega))) (notin_q hFq.out (by omega) (by first | omega | (simp <;> omega))) (notin_p hHp.out hFp.out (by first | exact .inr (Nat.le_refl _) | exact .inr (by omega) | exact .inl (by show _ < (X7.alloc _).heap.size; simp <;> omega) | exact .inl (by show _ < ((X7.alloc _).alloc _).heap.size; simp <;> omega))) (notin_q hFq.out (by omega) (by first | omega | (simp <;> omega)))
        case rest =>
          rename World => wx
          obtain ⟨bp, bq, Ap, np, cp, lp, Aq, nq, cq, lq, rfl, rfl, gp, gq, hnp, hnq, HPp, HPq, hlp, hlq, hbx⟩ := hcut
          have hzx := hbx.size
          have lbp := World.block_lt_of_cell? wx _ gp
          have lbq := World.block_lt_of_cell? wx _ gq
          have A7 := Lib.hid a7
          have GP := Lib.hid gp
          have GQ := Lib.hid gq
          clear a7 o7 k7 gp gq
          have KS := Lib.hid (show ∀ w', Below wx.heap.size wx w' → (fun w' : World => w'.cell? ⟨w.heap.size, 0, none⟩ = some (.slice A n c) ∧ w'.cell? ⟨y1.heap.size, 0, none⟩ = some (.slice Ak nk ck) ∧ w'.cell? ⟨y2.heap.size, 0, none⟩ = some (.int .i64 (getO id' (l.map Ob.po)).id) ∧ w'.cell? ⟨y2.heap.size, 1, none⟩ = some (.slice Aa na ca) ∧ w'.cell? ⟨y3.heap.size, 0, none⟩ = some (.int .i64 (getO id' (l.map Ob.po)).id) ∧ w'.cell? ⟨y3.heap.size, 1, none⟩ = some (.slice Ab nb cb) ∧ w'.cell? ⟨y4.heap.size, 0, none⟩ = some (.bool (readD id' fd' (l.map Ob.po)).ref) ∧ w'.cell? ⟨y4.heap.size, 1, none⟩ = some (.int .i64 (readD id' fd' (l.map Ob.po)).n) ∧ w'.cell? ⟨y5.heap.size, 0, none⟩ = some (.bool (readD id' fd' (l.map Ob.po)).ref) ∧ w'.cell? ⟨y5.heap.size, 1, none⟩ = some (.int .i64 (readD id' fd' (l.map Ob.po)).n) ∧ w'.cell? ⟨y6.heap.size, 0, none⟩ = some (.slice Aw nw cw) ∧ w'.cell? ⟨y7.heap.size, 0, none⟩ = some (.slice Az nz cz) ∧ w'.cell? ⟨bp, 0, none⟩ = some (.slice Ap np cp) ∧ w'.cell? ⟨bq, 0, none⟩ = some (.slice Aq nq cq)) w' from fun w' hb => ⟨(belc (hbx.trans (hb.mono hzx)) (by omega)).trans A7.out, (belc (hbx.trans (hb.mono hzx)) e1).trans D1_0.out, (belc (hbx.trans (hb.mono hzx)) e2).trans D2_0.out, (belc (hbx.trans (hb.mono hzx)) e2).trans D2_1.out, (belc (hbx.trans (hb.mono hzx)) e3).trans D3_0.out, (belc (hbx.trans (hb.mono hzx)) e3).trans D3_1.out, (belc (hbx.trans (hb.mono hzx)) e4).trans D4_0.out, (belc (hbx.trans (hb.mono hzx)) e4).trans D4_1.out, (belc (hbx.trans (hb.mono hzx)) e5).trans D5_0.out, (belc (hbx.trans (hb.mono hzx)) e5).trans D5_1.out, (belc (hbx.trans (hb.mono hzx)) e6).trans D6_0.out, (belc (hbx.trans (hb.mono hzx)) e7).trans D7_0.out, (belc hb lbp).trans GP.out, (belc hb lbq).trans GQ.out⟩)
          have hpl : np ≤ 4398046510977 := by rw [hnp.out]; have := put_len ⟨oid, o.s⟩ (l.map Ob.po); rw [List.length_map, HL.out] at this; omega
          have hql : nq ≤ 4398046510977 := by rw [hnq.out]; have := put_len ⟨oid, o.s⟩ (l.map Ob.po); rw [List.length_map, HL.out] at this; omega
          have hwl : nw ≤ n := by rw [hnw'.out]; exact hPL.out
          have hzl : nz ≤ n := by rw [hnz'.out]; exact hPL.out
          have hkl : nk ≤ n := by rw [hnk'.out, List.length_map]; exact Nat.le_of_eq HL.out
          have HH8 := Lib.hid (HHU.out.up hbx)
          have Hk8 := Lib.hid (Hk7.out.up hbx)
          have Sa8 := Lib.hid (Sa7.out.up hbx)
          have Sb8 := Lib.hid (Sb7.out.up hbx)
          have Hw8 := Lib.hid (Hw7.out.up hbx)
          have Hz8 := Lib.hid (hHz'.out.up hbx)
          have BX := Lib.hid (Below.drew (Below.refl wx.heap.size wx))
          obtain ⟨c00, c1, c2, c3, c4, c5, c6, c7, c8, c9, c10, c11, c12, c13⟩ := KS.out wx (Below.refl _ _)
          go_upto_region 21 with fail
          go_cut [181] (fun s181 wy => s181 = .bool false ∧ Below wx.heap.size wx wy)
          case first =>
            as_aux_lemma =>
              go_region_held3 (fun w' : World => w'.cell? ⟨w.heap.size, 0, none⟩ = some (.slice A n c) ∧ w'.cell? ⟨y1.heap.size, 0, none⟩ = some (.slice Ak nk ck) ∧ w'.cell? ⟨y2.heap.size, 0, none⟩ = some (.int .i64 (getO id' (l.map Ob.po)).id) ∧ w'.cell? ⟨y2.heap.size, 1, none⟩ = some (.slice Aa na ca) ∧ w'.cell? ⟨y3.heap.size, 0, none⟩ = some (.int .i64 (getO id' (l.map Ob.po)).id) ∧ w'.cell? ⟨y3.heap.size, 1, none⟩ = some (.slice Ab nb cb) ∧ w'.cell? ⟨y4.heap.size, 0, none⟩ = some (.bool (readD id' fd' (l.map Ob.po)).ref) ∧ w'.cell? ⟨y4.heap.size, 1, none⟩ = some (.int .i64 (readD id' fd' (l.map Ob.po)).n) ∧ w'.cell? ⟨y5.heap.size, 0, none⟩ = some (.bool (readD id' fd' (l.map Ob.po)).ref) ∧ w'.cell? ⟨y5.heap.size, 1, none⟩ = some (.int .i64 (readD id' fd' (l.map Ob.po)).n) ∧ w'.cell? ⟨y6.heap.size, 0, none⟩ = some (.slice Aw nw cw) ∧ w'.cell? ⟨y7.heap.size, 0, none⟩ = some (.slice Az nz cz) ∧ w'.cell? ⟨bp, 0, none⟩ = some (.slice Ap np cp) ∧ w'.cell? ⟨bq, 0, none⟩ = some (.slice Aq nq cq))
                (first
                  | exact KS.out _ BX.out
                  | exact KS.out _ hu1
                  | exact KS.out _ hu2
                  | exact KS.out _ hu3
                  | exact KS.out _ hu4
                  | exact KS.out _ hu5
                  | exact KS.out _ hu6
                  | exact KS.out _ hu7)
                (first
                  | (go_at_call_of 17 (Value.slice Aa na ca); refine (sameobj_any ⟨(getO id' (l.map Ob.po)).id, Aa, na, ca, (getO id' (l.map Ob.po)).s⟩ ⟨(getO id' (l.map Ob.po)).id, Ab, nb, cb, (getO id' (l.map Ob.po)).s⟩ _ (Sa8.out.up BX.out) (Sb8.out.up BX.out) (by show na ≤ _; omega) (by show nb ≤ _; omega)).mono ?_; rintro e U1 ⟨rfl, ku1⟩; rw [decide_eq_true (show (⟨(getO id' (l.map Ob.po)).id, Aa, na, ca, (getO id' (l.map Ob.po)).s⟩ : Ob).po = (⟨(getO id' (l.map Ob.po)).id, Ab, nb, cb, (getO id' (l.map Ob.po)).s⟩ : Ob).po from rfl)]; have hu1 : Below wx.heap.size wx U1 := Below.trans BX.out (ku1.mono (Below.size BX.out)))
                  | (go_at_call_of 18 (Value.slice Aw nw cw); refine (refsame_any Aw nw cw lw Az nz cz lz _ (Hw8.out.up hu1) (Hz8.out.up hu1) (by omega) (by omega)).mono ?_; rintro e U2 ⟨rfl, ku2⟩; rw [hpw'.out, hpz'.out, decide_eq_true rfl]; have hu2 : Below wx.heap.size wx U2 := Below.trans hu1 (ku2.mono (Below.size hu1)))
                  | (go_at_call_of 18 (Value.slice Ap np cp); refine (refsame_any Ap np cp lp Aq nq cq lq _ (HPp.out.up hu2) (HPq.out.up hu2) (by omega) (by omega)).mono ?_; rintro e U3 ⟨rfl, ku3⟩; rw [hlp.out, hlq.out, decide_eq_true rfl]; have hu3 : Below wx.heap.size wx U3 := Below.trans hu2 (ku3.mono (Below.size hu2)))
                  | (go_at_call_of 19 (Value.slice A n c); refine (valid_any A n c l _ (HH8.out.up hu3).sl (by omega)).mono ?_; rintro e U4 ⟨rfl, ku4⟩; skip; have hu4 : Below wx.heap.size wx U4 := Below.trans hu3 (ku4.mono (Below.size hu3)))
                  | (go_at_call_of 20 (Value.slice A n c); refine (refvalid_any A n c l _ (HH8.out.up hu4).sl (by omega)).mono ?_; rintro e U5 ⟨rfl, ku5⟩; skip; have hu5 : Below wx.heap.size wx U5 := Below.trans hu4 (ku5.mono (Below.size hu4)))
                  | (go_at_call_of 19 (Value.slice Ap np cp); refine (valid_any Ap np cp lp _ (HPp.out.up hu5).sl (by omega)).mono ?_; rintro e U6 ⟨rfl, ku6⟩; skip; have hu6 : Below wx.heap.size wx U6 := Below.trans hu5 (ku6.mono (Below.size hu5)))
                  | (go_at_call_of 20 (Value.slice Ap np cp); refine (refvalid_any Ap np cp lp _ (HPp.out.up hu6).sl (by omega)).mono ?_; rintro e U7 ⟨rfl, ku7⟩; skip; have hu7 : Below wx.heap.size wx U7 := Below.trans hu6 (ku7.mono (Below.size hu6))))
              all_goals
                go_wp2
                go_meet
                exact ⟨rfl, hu7⟩
          case rest =>
            obtain ⟨rfl, hby⟩ := hcut
            rename World => wy
            have BY := Lib.hid (Below.drew hby)
            clear c00 c1 c2 c3 c4 c5 c6 c7 c8 c9 c10 c11 c12 c13
            obtain ⟨d0, d1, d2, d3, d4, d5, d6, d7, d8, d9, d10, d11, d12, d13⟩ := KS.out wy hby
            obtain ⟨B1, hB1⟩ : ∃ b, b = decide (l.map Ob.po = lp.map Ob.po) := ⟨_, rfl⟩
            obtain ⟨B2, hB2⟩ : ∃ b, b = decide (lw.map Ob.po = l.map Ob.po) := ⟨_, rfl⟩
            have HB1 := Lib.hid hB1
            have HB2 := Lib.hid hB2
            have HB3 := Lib.hid (show decide (l.map Ob.po = lk.map Ob.po) = true from decide_eq_true hpk'.out.symm)
            clear hB1 hB2
            go_wp2_with fail
            go_region_held3 (fun w' : World => w'.cell? ⟨w.heap.size, 0, none⟩ = some (.slice A n c) ∧ w'.cell? ⟨y1.heap.size, 0, none⟩ = some (.slice Ak nk ck) ∧ w'.cell? ⟨y2.heap.size, 0, none⟩ = some (.int .i64 (getO id' (l.map Ob.po)).id) ∧ w'.cell? ⟨y2.heap.size, 1, none⟩ = some (.slice Aa na ca) ∧ w'.cell? ⟨y3.heap.size, 0, none⟩ = some (.int .i64 (getO id' (l.map Ob.po)).id) ∧ w'.cell? ⟨y3.heap.size, 1, none⟩ = some (.slice Ab nb cb) ∧ w'.cell? ⟨y4.heap.size, 0, none⟩ = some (.bool (readD id' fd' (l.map Ob.po)).ref) ∧ w'.cell? ⟨y4.heap.size, 1, none⟩ = some (.int .i64 (readD id' fd' (l.map Ob.po)).n) ∧ w'.cell? ⟨y5.heap.size, 0, none⟩ = some (.bool (readD id' fd' (l.map Ob.po)).ref) ∧ w'.cell? ⟨y5.heap.size, 1, none⟩ = some (.int .i64 (readD id' fd' (l.map Ob.po)).n) ∧ w'.cell? ⟨y6.heap.size, 0, none⟩ = some (.slice Aw nw cw) ∧ w'.cell? ⟨y7.heap.size, 0, none⟩ = some (.slice Az nz cz) ∧ w'.cell? ⟨bp, 0, none⟩ = some (.slice Ap np cp) ∧ w'.cell? ⟨bq, 0, none⟩ = some (.slice Aq nq cq))
              (first
                | exact KS.out _ BY.out
                | exact KS.out _ hv1
                | exact KS.out _ hv2
                | exact KS.out _ hv3
                | exact KS.out _ hv4
                | exact KS.out _ hv5
                | exact KS.out _ hv6)
              (first
                | (go_at_call_of 21 (Value.slice Ap np cp); refine (same_any A n c l Ap np cp lp _ (HH8.out.up BY.out) (HPp.out.up BY.out) (by omega) (by omega)).mono ?_; rintro e V1 ⟨rfl, kv1⟩; rw [← HB1.out]; have hv1 : Below wx.heap.size wx V1 := Below.trans BY.out (kv1.mono (Below.size BY.out)))
                | (go_at_call_of 18 (Value.slice Ap np cp); refine (refsame_any A n c l Ap np cp lp _ (HH8.out.up hv1) (HPp.out.up hv1) (by omega) (by omega)).mono ?_; rintro e V2 ⟨rfl, kv2⟩; rw [← HB1.out]; have hv2 : Below wx.heap.size wx V2 := Below.trans hv1 (kv2.mono (Below.size hv1)))
                | (go_at_call_of 21 (Value.slice Aw nw cw); refine (same_any Aw nw cw lw A n c l _ (Hw8.out.up hv2) (HH8.out.up hv2) (by omega) (by omega)).mono ?_; rintro e V3 ⟨rfl, kv3⟩; rw [← HB2.out]; have hv3 : Below wx.heap.size wx V3 := Below.trans hv2 (kv3.mono (Below.size hv2)))
                | (go_at_call_of 18 (Value.slice Aw nw cw); refine (refsame_any Aw nw cw lw A n c l _ (Hw8.out.up hv3) (HH8.out.up hv3) (by omega) (by omega)).mono ?_; rintro e V4 ⟨rfl, kv4⟩; rw [← HB2.out]; have hv4 : Below wx.heap.size wx V4 := Below.trans hv3 (kv4.mono (Below.size hv3)))
                | (go_at_call_of 21 (Value.slice Ak nk ck); refine (same_any A n c l Ak nk ck lk _ (HH8.out.up hv4) (Hk8.out.up hv4) (by omega) (by omega)).mono ?_; rintro e V5 ⟨rfl, kv5⟩; rw [HB3.out]; have hv5 : Below wx.heap.size wx V5 := Below.trans hv4 (kv5.mono (Below.size hv4)))
                | (go_at_call_of 18 (Value.slice Ak nk ck); refine (refsame_any A n c l Ak nk ck lk _ (HH8.out.up hv5) (Hk8.out.up hv5) (by omega) (by omega)).mono ?_; rintro e V6 ⟨rfl, kv6⟩; rw [HB3.out]; have hv6 : Below wx.heap.size wx V6 := Below.trans hv5 (kv6.mono (Below.size hv5))))
            all_goals
              go_wp2
              go_ret
              exact ⟨rfl, bwW.trans ((hF7.out.trans ((hbx.trans (hv6.mono hzx)).mono hF7.out.size)).mono bwW.size)⟩
end Go.Proofs.Ytohflngcgmcllaa
