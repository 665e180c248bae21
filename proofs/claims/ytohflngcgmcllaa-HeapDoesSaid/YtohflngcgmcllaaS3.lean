/- Sameness of lists of objects and of heaps; program and reference. -/
import Derived.Test.YtohflngcgmcllaaS2
namespace Go.Proofs.Ytohflngcgmcllaa
open Go.RowKit

set_option maxHeartbeats 2000000 in
theorem eqfunc_any (A : Option Addr) (n c : Nat) (l : List Ob) (B : Option Addr) (m d : Nat) (r : List Ob) (w : World) (hs : Hp w w.heap.size A n l) (ht : Hp w w.heap.size B m r) (hn : n ≤ 9000000000000) (hm : m ≤ 9000000000000) :
    Calls Try.prog 32 #[.slice A n c, .slice B m d, .func (.func 33) #[] #[]] w fun e w' => e = .returned (.bool (decide (l.map Ob.po = r.map Ob.po))) ∧ Below w.heap.size w w' := by
  have HS := Lib.hid hs.sl.len
  have HT := Lib.hid ht.sl.len
  have HO := Lib.hid hs.obs
  have HQ := Lib.hid ht.obs
  by_cases hnm : n = m
  · subst hnm
    go_enter Try.func32, Try.ntmps32
    go_wp2_with fail
    go_loopw [17] (fun i wr => ∃ k : Nat, k ≤ n ∧ i = .int .i64 k ∧ Hid (∀ i, i < k → (l.map Ob.po)[i]? = (r.map Ob.po)[i]?) ∧ Below w.heap.size w wr) (fun i _ => n - (intOf i).toNat)
    case atStart => exact ⟨0, Nat.zero_le _, rfl, Lib.hid (fun i h => absurd h (by omega)), Below.refl _ _⟩
    case round =>
      obtain ⟨k, hk, rfl, hall, hb⟩ := hrel
      have hzz := hb.size
      by_cases hlt : k < n
      · obtain ⟨ab, ao, rfl, hlo, hat⟩ := hs.sl.at_ (by omega)
        obtain ⟨bb, bo, rfl, hlo', hat'⟩ := ht.sl.at_ (by omega)
        obtain ⟨x, hx⟩ : ∃ x, l[k]? = some x := ⟨_, List.getElem?_eq_getElem (by rw [HS.out]; exact hlt)⟩
        obtain ⟨y, hy⟩ : ∃ y, r[k]? = some y := ⟨_, List.getElem?_eq_getElem (by rw [HT.out]; exact hlt)⟩
        obtain ⟨o1, o2⟩ := HO.out x (List.mem_of_getElem? hx)
        obtain ⟨q1, q2⟩ := HQ.out y (List.mem_of_getElem? hy)
        have c0 : wr.cell? ⟨ab, ao + k * 2, none⟩ = some (.int .i64 x.id) := (belc hb hlo).trans (hat k _ hx 0 _ rfl)
        have c1 : wr.cell? ⟨ab, ao + k * 2 + 1, none⟩ = some (.slice x.A x.n x.c) := (belc hb hlo).trans (hat k _ hx 1 _ rfl)
        have d0 : wr.cell? ⟨bb, bo + k * 2, none⟩ = some (.int .i64 y.id) := (belc hb hlo').trans (hat' k _ hy 0 _ rfl)
        have d1 : wr.cell? ⟨bb, bo + k * 2 + 1, none⟩ = some (.slice y.A y.n y.c) := (belc hb hlo').trans (hat' k _ hy 1 _ rfl)
        have hax : ab < wr.heap.size := by omega
        have hbx : bb < wr.heap.size := by omega
        have HX := Lib.hid hx
        have HY := Lib.hid hy
        have O1 := Lib.hid (o1.up hb)
        have Q1 := Lib.hid (q1.up hb)
        clear hat hat' hx hy o1 q1
        obtain ⟨w2, hw2⟩ : ∃ w2, w2 = (wr.alloc (.cells #[.int .i64 x.id, .slice x.A x.n x.c] 27)).alloc (.cells #[.int .i64 y.id, .slice y.A y.n y.c] 27) := ⟨_, rfl⟩
        have hb2 : Below wr.heap.size wr w2 := by rw [hw2]; exact (by repeat (first | (with_reducible exact (Below.refl _ _)) | (with_reducible refine Below.drew ?_) | (with_reducible refine below_drewN ?_ _) | (with_reducible refine Below.setCell ?_ ?_ _; rotate_left; (first | omega | (simp <;> omega))) | (with_reducible refine Below.alloc ?_ ?_ _; rotate_left; (first | omega | (simp <;> omega)))))
        have hbw2 : Below w.heap.size w w2 := hb.trans (hb2.mono hzz)
        have O2 := Lib.hid (O1.out.up hb2)
        have Q2 := Lib.hid (Q1.out.up hb2)
        by_cases hxy : x.po = y.po
        · have HE := Lib.hid (decide_eq_true hxy)
          go_wp2_with fail
          rw [← hw2]
          clear hw2
          refine (same1_any x y w2 O2.out Q2.out (by omega) (by omega)).mono ?_
          rintro e w3 ⟨rfl, hb3⟩
          have hbe := hbw2.trans (hb3.mono hbw2.size)
          rw [HE.out]
          go_wp2
          go_roundw
          case rel =>
            refine ⟨k + 1, by omega, by go_num, Lib.hid (fun i hi => ?_), hbe⟩
            by_cases hik : i = k
            · subst hik; rw [po_at HX.out, po_at HY.out, hxy]
            · exact hall.out i (by omega)
          case measure => simp [intOf]; omega
        · have HE := Lib.hid (decide_eq_false hxy)
          have HF := Lib.hid (show decide (l.map Ob.po = r.map Ob.po) = false from decide_eq_false (fun h => hxy (by have h1 := po_at HX.out; rw [h, po_at HY.out] at h1; injection h1 with h1; exact h1.symm)))
          go_wp2_with fail
          rw [← hw2]
          clear hw2
          refine (same1_any x y w2 O2.out Q2.out (by omega) (by omega)).mono ?_
          rintro e w3 ⟨rfl, hb3⟩
          have hbe := hbw2.trans (hb3.mono hbw2.size)
          rw [HE.out]
          go_wp2
          go_ret
          exact ⟨by rw [HF.out]; rfl, hbe⟩
      · obtain rfl : k = n := by omega
        have HF := Lib.hid (show decide (l.map Ob.po = r.map Ob.po) = true from decide_eq_true (ext_of (by rw [List.length_map]; exact HS.out) (by rw [List.length_map]; exact HT.out) hall.out))
        go_wp2
        go_ret
        exact ⟨by rw [HF.out]; rfl, hb⟩
  · have HF := Lib.hid (show decide (l.map Ob.po = r.map Ob.po) = false from decide_eq_false (fun h => hnm (by have := congrArg List.length h; rw [List.length_map, List.length_map, HS.out, HT.out] at this; exact this)))
    have hne : ¬ (n : Int) = m := by omega
    go_enter Try.func32, Try.ntmps32
    go_wp2
    go_ret
    exact ⟨by rw [HF.out]; rfl, Below.refl _ _⟩

theorem same_any (A : Option Addr) (n c : Nat) (l : List Ob) (B : Option Addr) (m d : Nat) (r : List Ob) (w : World) (hs : Hp w w.heap.size A n l) (ht : Hp w w.heap.size B m r) (hn : n ≤ 9000000000000) (hm : m ≤ 9000000000000) :
    Calls Try.prog 21 #[.agg #[.slice A n c], .agg #[.slice B m d]] w fun e w' => e = .returned (.bool (decide (l.map Ob.po = r.map Ob.po))) ∧ Below w.heap.size w w' := by
  obtain ⟨w2, hw2⟩ : ∃ w2, w2 = (w.alloc (.cells #[.slice A n c] 24)).alloc (.cells #[.slice B m d] 24) := ⟨_, rfl⟩
  have hb2 : Below w.heap.size w w2 := by rw [hw2]; exact (by repeat (first | (with_reducible exact (Below.refl _ _)) | (with_reducible refine Below.drew ?_) | (with_reducible refine below_drewN ?_ _) | (with_reducible refine Below.setCell ?_ ?_ _; rotate_left; (first | omega | (simp <;> omega))) | (with_reducible refine Below.alloc ?_ ?_ _; rotate_left; (first | omega | (simp <;> omega)))))
  have HS := Lib.hid (hs.up hb2)
  have HT := Lib.hid (ht.up hb2)
  clear hs ht
  go_enter Try.func21, Try.ntmps21
  go_wp2_with fail
  rw [← hw2]
  clear hw2
  refine (eqfunc_any A n c l B m d r w2 HS.out HT.out hn hm).mono ?_
  rintro e w3 ⟨rfl, hb3⟩
  have hbe := hb2.trans (hb3.mono hb2.size)
  go_wp2
  go_ret
  exact ⟨rfl, hbe⟩
end Go.Proofs.Ytohflngcgmcllaa
