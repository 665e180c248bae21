/- The chain of the sanity check: the places yielded, and Chain. -/
import Derived.Test.YtbmembmiejmoaaaDoorJ
import Derived.Test.YtbmembmiejmoaaaDoorRangeTo
import Derived.Sort.LoopGhostIn
namespace Go.Proofs.YtbmembmiejmoaaaDoor
open Go.RowKit Go.Shelf
attribute [local go_sem] Oper.semAt_some

/-- What the iterator has captured: boxes between x and n₀; what they lead to lies below x. -/
structure Cap (w : World) (n₀ x Bs Bc Bq ab : Nat) (A : Option Addr) (n c : Nat) (ts : List Trk) : Prop where
  le : n₀ ≤ w.heap.size
  xl : x ≤ n₀
  bs : x < Bs ∧ Bs < n₀
  bc : x < Bc ∧ Bc < n₀
  bq : x < Bq ∧ Bq < n₀
  s0 : w.cell? ⟨Bs, 0, none⟩ = some (.int .i64 1)
  k0 : w.cell? ⟨Bc, 0, none⟩ = some (.slice (some ⟨ab, 0, none⟩) 3 3)
  k1 : w.cell? ⟨Bc, 1, none⟩ = some (.int .i64 0)
  k2 : w.cell? ⟨Bc, 2, none⟩ = some (.int .i64 1)
  q0 : w.cell? ⟨Bq, 0, none⟩ = some (.slice A n c)
  hab : ab < x
  h0 : 0 < x
  hc : C3 w ab
  ht : Tab w
  hs : Sl w x 3 Trk.cells A n ts
theorem C3.most {w w' : World} {ab n₀ x : Nat} (h : C3 w ab) (hb : Most n₀ x w w') (hl : ab < x) (hx : x ≤ n₀) : C3 w' ab := ⟨by have := hb.size; have := h.lt; omega, (hb.cell (by omega) (by omega)).trans h.c0, (hb.cell (by omega) (by omega)).trans h.c1, (hb.cell (by omega) (by omega)).trans h.c2, (hb.cell (by omega) (by omega)).trans h.c3, (hb.cell (by omega) (by omega)).trans h.c4, (hb.cell (by omega) (by omega)).trans h.c5, (hb.cell (by omega) (by omega)).trans h.c6, (hb.cell (by omega) (by omega)).trans h.c7, (hb.cell (by omega) (by omega)).trans h.c8, (hb.cell (by omega) (by omega)).trans h.c9, (hb.cell (by omega) (by omega)).trans h.c10, (hb.cell (by omega) (by omega)).trans h.c11, (hb.cell (by omega) (by omega)).trans h.c12, (hb.cell (by omega) (by omega)).trans h.c13, (hb.cell (by omega) (by omega)).trans h.c14⟩
theorem Tab.most {w w' : World} {n₀ x : Nat} (h : Tab w) (hb : Most n₀ x w w') (hl : 0 < x) (hx : x ≤ n₀) : Tab w' := ⟨by have := hb.size; have := h.lt; omega, (hb.cell (by omega) (by omega)).trans h.t84, (hb.cell (by omega) (by omega)).trans h.t85, (hb.cell (by omega) (by omega)).trans h.t86, (hb.cell (by omega) (by omega)).trans h.t87, (hb.cell (by omega) (by omega)).trans h.t4, (hb.cell (by omega) (by omega)).trans h.t5, (hb.cell (by omega) (by omega)).trans h.t6, (hb.cell (by omega) (by omega)).trans h.t7, (hb.cell (by omega) (by omega)).trans h.t56, (hb.cell (by omega) (by omega)).trans h.t57, (hb.cell (by omega) (by omega)).trans h.t58, (hb.cell (by omega) (by omega)).trans h.t59⟩
theorem Sl.most {α : Type} {w w' : World} {n₀ x sz n : Nat} {cells : α → List Value} {A : Option Addr} {l : List α} (h : Sl w x sz cells A n l) (hb : Most n₀ x w w') (hx : x ≤ n₀) : Sl w' x sz cells A n l :=
  ⟨h.len, fun hn => by
    obtain ⟨ab, ao, e, hlt, hc⟩ := h.at_ hn
    exact ⟨ab, ao, e, hlt, fun i y hy j u hu => (hb.cell (by omega) (by omega)).trans (hc i y hy j u hu)⟩⟩
theorem Cap.most {w w' : World} {n₀ x Bs Bc Bq ab : Nat} {A : Option Addr} {n c : Nat} {ts : List Trk} (h : Cap w n₀ x Bs Bc Bq ab A n c ts) (hb : Most n₀ x w w') : Cap w' n₀ x Bs Bc Bq ab A n c ts :=
  have h1 := h.bs
  have h2 := h.bc
  have h3 := h.bq
  ⟨Nat.le_trans h.le hb.size, h.xl, h.bs, h.bc, h.bq, (hb.cell (by omega) (by omega)).trans h.s0, (hb.cell (by omega) (by omega)).trans h.k0, (hb.cell (by omega) (by omega)).trans h.k1, (hb.cell (by omega) (by omega)).trans h.k2, (hb.cell (by omega) (by omega)).trans h.q0, h.hab, h.h0, h.hc.most hb h.hab h.xl, h.ht.most hb h.h0 h.xl, h.hs.most hb h.xl⟩

set_option maxRecDepth 100000 in
set_option maxHeartbeats 2000000 in
theorem places_in (m l n₀ x Bs Bc Bq ab : Nat) (hm : 1 ≤ m) (A : Option Addr) (n c N : Nat) (ts : List Trk) (hn : n ≤ 1000000) (hsort : Sorted ts) (hg : guessN ts 1 = 1) (hh : hit ts 1 = true) (J Jx : List Unit → World → Prop)
    (hN : ∀ pre W1, J pre W1 → pre.length < N)
    (hY : ∀ pre y W1, J pre W1 → YieldAt Fence.wide (m - 1) Tryd.prog l #[.int .i64 1] W1 fun e W' =>
      (e = .returned (.bool true) ∧ J (pre ++ [y]) W' ∧ Most n₀ x W1 W') ∨ (e = .returned (.bool false) ∧ Jx (pre ++ [y]) W'))
    (hJ : ∀ pre X Y, J pre X → Below X.heap.size X Y → J pre Y) (W : World) (hC : Cap W n₀ x Bs Bc Bq ab A n c ts) (h0 : J [] W) :
    CallsIn Fence.wide m Tryd.prog 26 #[.func (.yield l) #[] #[], .pointer (some ⟨Bs, 0, none⟩), .pointer (some ⟨Bc, 0, none⟩), .pointer (some ⟨Bq, 0, none⟩)] W fun e W' => (∃ v, e = .returned v) ∧
      ((∃ ys : List Unit, False ∧ J ys W') ∨ (∃ pre : List Unit, True ∧ Jx pre W')) := by
  have HN := Lib.hid hN
  have HY := Lib.hid hY
  have HJ := Lib.hid hJ
  have HS := Lib.hid hsort
  have HG := Lib.hid hg
  have HH := Lib.hid hh
  have HC := Lib.hid hC
  have s0 := hC.s0
  clear hN hY hJ hsort hg hh hC
  refine callsIn_of_wp Tryd.func26 rfl trivial ?_ rfl
  simp only [Tryd.ntmps26, List.size_toArray, List.length_cons, List.length_nil, Nat.reduceAdd, Nat.reduceSub, Array.replicate_succ, Array.replicate_zero, List.push_toArray, List.append_toArray, List.nil_append, List.cons_append]
  gi_wp2
  gi_loopg [5, 6] N (fun gk s5 s6 wr => s5 = .int .i64 1 ∧ s6 = .bool true ∧ ∃ pre, pre.length + gk = N ∧ J pre wr ∧ Most n₀ x W wr)
  case atStart => exact ⟨rfl, rfl, [], by simp, h0, Most.refl _ _ _⟩
  case round =>
    obtain ⟨rfl, rfl, pre, hpl, hJs, hb⟩ := hrel
    have HCr := Lib.hid (HC.out.most hb)
    have k0 := HCr.out.k0
    have k1 := HCr.out.k1
    have k2 := HCr.out.k2
    have hlen := HN.out _ _ hJs
    gi_wp2_with fail
    refine ⟨trivial, ?_⟩
    refine (callsIn_wide.2 (placeE_any ab wr HCr.out.hc)).mono ?_
    rintro e w1 ⟨rfl, hb1⟩
    have j1 := HJ.out _ _ _ hJs hb1
    have hb1 : Most n₀ x W w1 := hb.trans (.of_below (hb1.mono HCr.out.le))
    have HC1 := Lib.hid (HC.out.most hb1)
    have k0 := HC1.out.k0
    have k1 := HC1.out.k1
    have k2 := HC1.out.k2
    clear hJs
    gi_wp2_with fail
    refine ⟨trivial, ?_⟩
    refine (callsIn_wide.2 (asks_any ab w1 HC1.out.hc HC1.out.ht)).mono ?_
    rintro e w2 ⟨rfl, hb2⟩
    have j2 := HJ.out _ _ _ j1 hb2
    have hb2 : Most n₀ x W w2 := hb1.trans (.of_below (hb2.mono HC1.out.le))
    have HC2 := Lib.hid (HC.out.most hb2)
    clear j1 k0 k1 k2
    obtain ⟨fn, tmps, assign, body, hy, hR⟩ := HY.out pre () w2 j2
    gi_wp2_with fail
    refine hR.mono ?_
    rintro e w3 (⟨rfl, j3, hb3⟩ | ⟨rfl, jx3⟩)
    · have hb3 : Most n₀ x W w3 := hb2.trans hb3
      have HC3 := Lib.hid (HC.out.most hb3)
      have q0 := HC3.out.q0
      clear hy hR j2
      gi_wp2_with fail
      refine ⟨trivial, ?_⟩
      refine (callsIn_wide.2 (guess_any A n c ts 1 w3 (HC3.out.hs.mono (Nat.le_trans HC3.out.xl HC3.out.le)) hn HS.out)).mono ?_
      rintro e w4 ⟨rfl, hb4⟩
      have j4 := HJ.out _ _ _ j3 hb4
      have hb4 : Most n₀ x W w4 := hb3.trans (.of_below (hb4.mono HC3.out.le))
      have hl4 := HN.out _ _ j4
      simp at hl4
      rw [HG.out, HH.out]
      gi_wp2
      go_roundg (gk - 1)
      case measure => omega
      case rel => exact ⟨rfl, rfl, pre ++ [()], by simp; omega, j4, hb4⟩
    · clear hy hR j2
      gi_wp2
      go_end0
      exact ⟨⟨_, rfl⟩, .inr ⟨_, trivial, jx3⟩⟩
theorem places_to (m n₀ x Bs Bc Bq ab : Nat) (hm : 1 ≤ m) (A : Option Addr) (n c N : Nat) (ts : List Trk) (w : World) (hn : n ≤ 1000000) (hsort : Sorted ts) (hg : guessN ts 1 = 1) (hh : hit ts 1 = true) (hC : Cap w n₀ x Bs Bc Bq ab A n c ts) :
    SeqTo Fence.wide m Tryd.prog 26 #[.pointer (some ⟨Bs, 0, none⟩), .pointer (some ⟨Bc, 0, none⟩), .pointer (some ⟨Bq, 0, none⟩)] (fun _ : Unit => #[.int .i64 1]) (Most n₀ x) (fun _ => False) (fun _ => True) N w := fun l J Jx W hW hN hY hJ h0 =>
  places_in m l n₀ x Bs Bc Bq ab hm A n c N ts hn hsort hg hh J Jx hN hY hJ W (hC.most (.of_below (hW.mono hC.le))) h0

set_option maxHeartbeats 1000000 in
theorem places_any (ab : Nat) (A : Option Addr) (n c : Nat) (w : World) :
    Calls Tryd.prog 20 #[.agg #[.slice (some ⟨ab, 0, none⟩) 3 3, .int .i64 0, .int .i64 1], .agg #[.slice A n c], .int .i64 1] w fun e w' => e = .returned (.func (.func 26) #[] #[.pointer (some ⟨w.heap.size + 2, 0, none⟩), .pointer (some ⟨w.heap.size, 0, none⟩), .pointer (some ⟨w.heap.size + 1, 0, none⟩)]) ∧
      w' = ((w.alloc (.cells #[.slice (some ⟨ab, 0, none⟩) 3 3, .int .i64 0, .int .i64 1] 54)).alloc (.cells #[.slice A n c] 26)).alloc (.cells #[.int .i64 1] 3) := by
  go_enter Tryd.func20, Tryd.ntmps20
  go_wp2
  go_ret
  exact ⟨rfl, rfl⟩
end Go.Proofs.YtbmembmiejmoaaaDoor
