/- The sanity check of the laws of heaps. -/
import Derived.Test.YtohflngcgmcllaaV
import Derived.Test.YtohflngcgmcllaaD
import Derived.Test.YtohflngcgmcllaaE
import Derived.Test.YtohflngcgmcllaaF
import Derived.Test.YtohflngcgmcllaaS3
namespace Go.Proofs.Ytohflngcgmcllaa
open Go.RowKit

theorem one_get {α : Type} {f : α → PO} {l : List α} {L : List PO} (h : l.map f = L) : l.length = L.length := by rw [← h, List.length_map]

theorem Hp.apart {w w' : World} {lo n k : Nat} {A : Option Addr} {l : List Ob} (h : Hp w w.heap.size A n l) (hf : Fr lo A l) (hg : w.grownBy w' (some k)) (hk : k < lo) : Hp w' w'.heap.size A n l :=
  ⟨(h.sl.apart (Nat.le_refl _) hg (fun _ ad had e => by have := hf.1 ad had; injection e with e; omega)).mono hg.size, fun o ho =>
    ⟨((h.obs o ho).1.apart (Nat.le_refl _) hg (fun h0 ad had e => by have := hf.2 o ho h0 ad had; injection e with e; omega)).mono hg.size, (h.obs o ho).2⟩⟩
def L1 : List PO := [⟨5, [⟨false, 1⟩, ⟨false, 2⟩]⟩]
def L2 : List PO := [⟨2, []⟩, ⟨5, [⟨false, 1⟩, ⟨false, 2⟩]⟩]
def L3 : List PO := [⟨2, []⟩, ⟨5, [⟨false, 1⟩, ⟨false, 9⟩]⟩]

set_option maxHeartbeats 4000000 in
theorem sane_any (w : World) : Calls Try.prog 6 #[] w fun e w' => e = .returned (.bool true) ∧ Below w.heap.size w w' := by
  obtain ⟨w1, hw1⟩ : ∃ w1, w1 = w.alloc (.cells #[.bool false, .int .i64 1, .bool false, .int .i64 2] 29) := ⟨_, rfl⟩
  have hb1 : Below w.heap.size w w1 := by rw [hw1]; exact (by repeat (first | (with_reducible exact (Below.refl _ _)) | (with_reducible refine Below.drew ?_) | (with_reducible refine below_drewN ?_ _) | (with_reducible refine Below.setCell ?_ ?_ _; rotate_left; (first | omega | (simp <;> omega))) | (with_reducible refine Below.alloc ?_ ?_ _; rotate_left; (first | omega | (simp <;> omega)))))
  have hz1 : w1.heap.size = w.heap.size + 1 := by rw [hw1]; simp
  have ho : Sl w1 w1.heap.size 2 Val.cells (some ⟨w.heap.size, 0, none⟩) 2 [⟨false, 1⟩, ⟨false, 2⟩] := by
    refine ⟨rfl, fun _ => ⟨w.heap.size, 0, rfl, by omega, fun i x hx j u hu => ?_⟩⟩
    rw [hw1, cell_new _ _ _ _ _ rfl, Nat.zero_add]
    have := flat_get (cells := Val.cells) Val.size [⟨false, 1⟩, ⟨false, 2⟩] i x hx j u hu
    rw [← Array.getElem?_toList]
    exact this
  have HO := Lib.hid ho
  clear ho
  go_enter Try.func6, Try.ntmps6
  go_wp2_with fail
  rw [← hw1]
  have HW1 := Lib.hid hw1
  clear hw1
  refine (put_any none 0 0 [] ⟨5, some ⟨w.heap.size, 0, none⟩, 2, 2, [⟨false, 1⟩, ⟨false, 2⟩]⟩ w1 Hp.nil HO.out (by omega) (by show 2 ≤ 8796093021952; omega)).mono ?_
  rintro e w2 ⟨A1, n1, c1, l1, rfl, hp1, hn1, hH1, hF1, hb2⟩
  have hp1' : l1.map Ob.po = L1 := hp1.trans rfl
  obtain rfl : n1 = 1 := hn1
  have HP1 := Lib.hid hp1'
  obtain ⟨V1, hV1⟩ : ∃ V1, V1 = w2.alloc (.cells #[.slice A1 1 c1] 24) := ⟨_, rfl⟩
  have hbV1 : Below w2.heap.size w2 V1 := by rw [hV1]; exact (by repeat (first | (with_reducible exact (Below.refl _ _)) | (with_reducible refine Below.drew ?_) | (with_reducible refine below_drewN ?_ _) | (with_reducible refine Below.setCell ?_ ?_ _; rotate_left; (first | omega | (simp <;> omega))) | (with_reducible refine Below.alloc ?_ ?_ _; rotate_left; (first | omega | (simp <;> omega)))))
  have hzV1 : V1.heap.size = w2.heap.size + 1 := by rw [hV1]; simp
  have v1 : V1.cell? ⟨w2.heap.size, 0, none⟩ = some (.slice A1 1 c1) := by rw [hV1, cell_new _ _ _ _ _ rfl]; rfl
  have v1f : V1.frozen? ⟨w2.heap.size, 0, none⟩ = false := by rw [hV1, frozen_new _ _ _ _ _ rfl]
  have hbw2 : Below w.heap.size w w2 := hb1.trans (hb2.mono hb1.size)
  have hbwV1 : Below w.heap.size w V1 := hbw2.trans (hbV1.mono hbw2.size)
  have HH1 := Lib.hid (hH1.out.up hbV1)
  clear hp1 hp1' hH1 hF1
  go_wp2_with fail
  rw [← hV1]
  have HV1 := Lib.hid hV1
  clear hV1
  refine (put_any A1 1 c1 l1 ⟨2, none, 0, 0, []⟩ V1 HH1.out Sl.nil (by omega) (by show 0 ≤ 8796093021952; omega)).mono ?_
  rintro e w3 ⟨A2, n2, c2, l2, rfl, hp2, hn2, hH2, hF2, hb3⟩
  rw [HP1.out] at hp2 hn2
  have HP2 := Lib.hid (show l2.map Ob.po = L2 from hp2.trans rfl)
  obtain rfl : n2 = 2 := hn2
  have hz3 := hb3.size
  have u1 : w3.cell? ⟨w2.heap.size, 0, none⟩ = some (.slice A1 1 c1) := (belc hb3 (by omega)).trans v1
  have u1f : w3.frozen? ⟨w2.heap.size, 0, none⟩ = false := (belf hb3 (by omega)).trans v1f
  obtain ⟨V2, hV2⟩ : ∃ V2, V2 = w3.setCell ⟨w2.heap.size, 0, none⟩ (.slice A2 2 c2) := ⟨_, rfl⟩
  have hg2 : w3.grownBy V2 (some w2.heap.size) := by rw [hV2]; exact grown1 w3 ⟨w2.heap.size, 0, none⟩ _
  have hzV2 : V2.heap.size = w3.heap.size := by rw [hV2]; simp
  have HH2 := Lib.hid (hH2.out.apart hF2.out hg2 (by omega))
  have v2 : V2.cell? ⟨w2.heap.size, 0, none⟩ = some (.slice A2 2 c2) := by rw [hV2]; exact World.cell?_setCell_same _ _ _ u1
  have hbw3 : Below w.heap.size w w3 := hbwV1.trans (hb3.mono hbwV1.size)
  have hbwV2 : Below w.heap.size w V2 := by rw [hV2]; exact hbw3.setCell (by have := hbw2.size; exact this) _
  clear hp2 hH2 hF2 v1 v1f
  go_wp2_with fail
  rw [← hV2]
  have HV2 := Lib.hid hV2
  clear hV2 u1 u1f
  refine (write_any A2 2 c2 l2 5 1 ⟨false, 9⟩ V2 HH2.out (by omega)).mono ?_
  rintro e w4 ⟨A3, n3, c3, l3, rfl, hp3, hn3, hH3, hF3, hb4⟩
  rw [HP2.out] at hp3 hn3 ⊢
  rw [show readB 5 1 L2 = true from by decide]
  have HP3 := Lib.hid (show l3.map Ob.po = L3 from hp3.trans (by decide))
  have hn3x : n3 = 2 := hn3.trans (by decide)
  clear hn3
  obtain rfl : n3 = 2 := hn3x
  have hz4 := hb4.size
  obtain ⟨V4, hV4⟩ : ∃ V4, V4 = w4.alloc (.cells #[.slice A3 2 c3] 24) := ⟨_, rfl⟩
  have hbV4 : Below w4.heap.size w4 V4 := by rw [hV4]; exact (by repeat (first | (with_reducible exact (Below.refl _ _)) | (with_reducible refine Below.drew ?_) | (with_reducible refine below_drewN ?_ _) | (with_reducible refine Below.setCell ?_ ?_ _; rotate_left; (first | omega | (simp <;> omega))) | (with_reducible refine Below.alloc ?_ ?_ _; rotate_left; (first | omega | (simp <;> omega)))))
  have hzV4 : V4.heap.size = w4.heap.size + 1 := by rw [hV4]; simp
  have b24 : Below V2.heap.size V2 V4 := hb4.trans (hbV4.mono hz4)
  have v4 : V4.cell? ⟨w4.heap.size, 0, none⟩ = some (.slice A3 2 c3) := by rw [hV4, cell_new _ _ _ _ _ rfl]; rfl
  have v2' : V4.cell? ⟨w2.heap.size, 0, none⟩ = some (.slice A2 2 c2) := (belc b24 (by omega)).trans v2
  have HH3 := Lib.hid (hH3.out.up hbV4)
  have HH24 := Lib.hid (HH2.out.up b24)
  have hbwV4 : Below w.heap.size w V4 := hbwV2.trans (b24.mono hbwV2.size)
  clear hp3 hH3 hF3 v2
  go_wp2_with fail
  rw [← hV4]
  have HV4 := Lib.hid hV4
  clear hV4
  refine (read_any A3 2 c3 l3 5 1 V4 HH3.out (by omega)).mono ?_
  rintro e w5 ⟨rfl, hb5⟩
  rw [HP3.out, show readD 5 1 L3 = ⟨false, 9⟩ from by decide, show readB 5 1 L3 = true from by decide]
  have hz5 := hb5.size
  obtain ⟨V5, hV5⟩ : ∃ V5, V5 = w5.alloc (.cells #[.bool false, .int .i64 9] 29) := ⟨_, rfl⟩
  have hbV5 : Below w5.heap.size w5 V5 := by rw [hV5]; exact (by repeat (first | (with_reducible exact (Below.refl _ _)) | (with_reducible refine Below.drew ?_) | (with_reducible refine below_drewN ?_ _) | (with_reducible refine Below.setCell ?_ ?_ _; rotate_left; (first | omega | (simp <;> omega))) | (with_reducible refine Below.alloc ?_ ?_ _; rotate_left; (first | omega | (simp <;> omega)))))
  have hzV5 : V5.heap.size = w5.heap.size + 1 := by rw [hV5]; simp
  have b45 : Below V4.heap.size V4 V5 := hb5.trans (hbV5.mono hz5)
  have v5 : V5.cell? ⟨w5.heap.size, 1, none⟩ = some (.int .i64 9) := by rw [hV5, cell_new _ _ _ _ _ rfl]; rfl
  have x4 : V5.cell? ⟨w4.heap.size, 0, none⟩ = some (.slice A3 2 c3) := (belc b45 (by omega)).trans v4
  have x5 : w5.cell? ⟨w4.heap.size, 0, none⟩ = some (.slice A3 2 c3) := (belc hb5 (by omega)).trans v4
  have l5 : w4.heap.size < w5.heap.size := by omega
  have HH5 := Lib.hid (HH3.out.up b45)
  go_wp2_with fail
  rw [← hV5]
  have HV5 := Lib.hid hV5
  clear hV5 x5
  refine (get_any A3 2 c3 l3 2 V5 HH5.out (by omega)).mono ?_
  rintro e w6 ⟨A6, n6, c6, rfl, -, -, -, hb6⟩
  rw [HP3.out, show getO 2 L3 = ⟨2, []⟩ from by decide, show getB 2 L3 = true from by decide]
  have hz6 := hb6.size
  obtain ⟨V6, hV6⟩ : ∃ V6, V6 = w6.alloc (.cells #[.int .i64 2, .slice A6 n6 c6] 27) := ⟨_, rfl⟩
  have hbV6 : Below w6.heap.size w6 V6 := by rw [hV6]; exact (by repeat (first | (with_reducible exact (Below.refl _ _)) | (with_reducible refine Below.drew ?_) | (with_reducible refine below_drewN ?_ _) | (with_reducible refine Below.setCell ?_ ?_ _; rotate_left; (first | omega | (simp <;> omega))) | (with_reducible refine Below.alloc ?_ ?_ _; rotate_left; (first | omega | (simp <;> omega)))))
  have hzV6 : V6.heap.size = w6.heap.size + 1 := by rw [hV6]; simp
  have b56 : Below V5.heap.size V5 V6 := hb6.trans (hbV6.mono hz6)
  have v6 : V6.cell? ⟨w6.heap.size, 0, none⟩ = some (.int .i64 2) := by rw [hV6, cell_new _ _ _ _ _ rfl]; rfl
  have x6 : w6.cell? ⟨w4.heap.size, 0, none⟩ = some (.slice A3 2 c3) := (belc hb6 (by omega)).trans x4
  have l6 : w4.heap.size < w6.heap.size := by omega
  have HH6 := Lib.hid (HH5.out.up b56)
  go_wp2_with fail
  rw [← hV6]
  have HV6 := Lib.hid hV6
  clear hV6 x6
  refine (read_any A3 2 c3 l3 5 2 V6 HH6.out (by omega)).mono ?_
  rintro e w7 ⟨rfl, hb7⟩
  rw [HP3.out, show readB 5 2 L3 = false from by decide]
  have hz7 := hb7.size
  obtain ⟨V7, hV7⟩ : ∃ V7, V7 = w7.alloc (.cells #[.bool (readD 5 2 L3).ref, .int .i64 (readD 5 2 L3).n] 29) := ⟨_, rfl⟩
  have hbV7 : Below w7.heap.size w7 V7 := by rw [hV7]; exact (by repeat (first | (with_reducible exact (Below.refl _ _)) | (with_reducible refine Below.drew ?_) | (with_reducible refine below_drewN ?_ _) | (with_reducible refine Below.setCell ?_ ?_ _; rotate_left; (first | omega | (simp <;> omega))) | (with_reducible refine Below.alloc ?_ ?_ _; rotate_left; (first | omega | (simp <;> omega)))))
  have hzV7 := hbV7.size
  have b67 : Below V6.heap.size V6 V7 := hb7.trans (hbV7.mono hz7)
  have b57 : Below V5.heap.size V5 V7 := b56.trans (b67.mono b56.size)
  have b47 : Below V4.heap.size V4 V7 := b45.trans (b57.mono b45.size)
  have y1 : w7.cell? ⟨w5.heap.size, 1, none⟩ = some (.int .i64 9) := (belc hb7 (by omega)).trans ((belc b56 (by omega)).trans v5)
  have y2 : w7.cell? ⟨w6.heap.size, 0, none⟩ = some (.int .i64 2) := (belc hb7 (by omega)).trans v6
  have y3 : w7.cell? ⟨w4.heap.size, 0, none⟩ = some (.slice A3 2 c3) := (belc hb7 (by omega)).trans ((belc b56 (by omega)).trans x4)
  have y4 : w7.cell? ⟨w2.heap.size, 0, none⟩ = some (.slice A2 2 c2) := (belc hb7 (by omega)).trans ((belc b56 (by omega)).trans ((belc b45 (by omega)).trans v2'))
  have m1 : w5.heap.size < w7.heap.size := by omega
  have m2 : w6.heap.size < w7.heap.size := by omega
  have m3 : w4.heap.size < w7.heap.size := by omega
  have m4 : w2.heap.size < w7.heap.size := by omega
  have HH7 := Lib.hid (HH6.out.up b67)
  have HH27 := Lib.hid (HH24.out.up b47)
  have z3 : V7.cell? ⟨w4.heap.size, 0, none⟩ = some (.slice A3 2 c3) := (belc b47 (by omega)).trans v4
  have z4 : V7.cell? ⟨w2.heap.size, 0, none⟩ = some (.slice A2 2 c2) := (belc b47 (by omega)).trans v2'
  have hbwV7 : Below w.heap.size w V7 := hbwV4.trans (b47.mono hbwV4.size)
  clear v4 v2' v5 x4 v6
  go_wp2_with fail
  rw [← hV7]
  have HV7 := Lib.hid hV7
  clear hV7 y1 y2 y3 y4
  refine (valid_any A3 2 c3 l3 V7 HH7.out.sl (by omega)).mono ?_
  rintro e w8 ⟨rfl, hb8⟩
  have hval : validB (l3.map Ob.po) = true := by
    rw [HP3.out]
    refine validB_true fun i x hx => ?_
    match i, hx with
    | 0, hx => simp [L3] at hx; subst hx; exact ⟨by decide, fun h => absurd h (by omega)⟩
    | 1, hx => simp [L3] at hx; subst hx; exact ⟨by decide, fun _ y hy => by simp [L3] at hy; subst hy; decide⟩
    | i + 2, hx => simp [L3] at hx
  rw [hval]
  have hz8 := hb8.size
  have q3 : w8.cell? ⟨w4.heap.size, 0, none⟩ = some (.slice A3 2 c3) := (belc hb8 (by omega)).trans z3
  have q4 : w8.cell? ⟨w2.heap.size, 0, none⟩ = some (.slice A2 2 c2) := (belc hb8 (by omega)).trans z4
  have HH8 := Lib.hid (HH7.out.up hb8)
  have HH28 := Lib.hid (HH27.out.up hb8)
  clear hval
  go_wp2_with fail
  refine (same_any A3 2 c3 l3 A2 2 c2 l2 w8 HH8.out HH28.out (by omega) (by omega)).mono ?_
  rintro e w9 ⟨rfl, hb9⟩
  rw [HP3.out, HP2.out, show decide (L3 = L2) = false from by decide]
  have hz9 := hb9.size
  have r4 : w9.cell? ⟨w2.heap.size, 0, none⟩ = some (.slice A2 2 c2) := (belc hb9 (by omega)).trans q4
  have HH29 := Lib.hid (HH28.out.up hb9)
  go_wp2_with fail
  refine (same_any A2 2 c2 l2 A2 2 c2 l2 w9 HH29.out HH29.out (by omega) (by omega)).mono ?_
  rintro e w10 ⟨rfl, hb10⟩
  rw [decide_eq_true rfl]
  have hbe : Below w.heap.size w w10 := (hbwV7.trans (hb8.mono hbwV7.size)).trans ((hb9.trans (hb10.mono hb9.size)).mono (by have := hbwV7.size; omega))
  go_wp2
  go_ret
  exact ⟨rfl, hbe⟩
end Go.Proofs.Ytohflngcgmcllaa
