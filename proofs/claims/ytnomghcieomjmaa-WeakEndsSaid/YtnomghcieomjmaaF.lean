/- Whether an operation can be done. -/
import Derived.Test.YtnomghcieomjmaaE
import Derived.Deep.DeepCutAuto
import Derived.Deep.RegionHeld3
import Derived.Deep.LoopGhost
import Derived.Deep.RegionWith
namespace Go.Proofs.Ytnomghcieomjmaa
open Go.RowKit

/-- A store that waits. -/
structure Wt where
  word : Int
  n : Int
  deriving DecidableEq
def Wt.cells (x : Wt) : List Value := [.int .i64 x.word, .int .i64 x.n]
theorem Wt.size (x : Wt) : x.cells.length = 2 := rfl
/-- A thread's state in memory. -/
structure Tr where
  done : Nat → Bool
  regs : Nat → Int
  A : Option Addr
  n : Nat
  c : Nat
  q : List Wt
def Tr.cells (t : Tr) : List Value := [.bool (t.done 0), .bool (t.done 1), .bool (t.done 2), .bool (t.done 3), .bool (t.done 4), .bool (t.done 5), .bool (t.done 6), .bool (t.done 7), .int .i64 (t.regs 0), .int .i64 (t.regs 1), .int .i64 (t.regs 2), .int .i64 (t.regs 3), .int .i64 (t.regs 4), .int .i64 (t.regs 5), .int .i64 (t.regs 6), .int .i64 (t.regs 7), .slice t.A t.n t.c]
theorem Tr.size (t : Tr) : t.cells.length = 17 := rfl
theorem tr_at (t : Tr) {q : Nat} (h : q < 8) : t.cells[q]? = some (.bool (t.done q)) := by
  match q, h with
  | 0, _ => rfl
  | 1, _ => rfl
  | 2, _ => rfl
  | 3, _ => rfl
  | 4, _ => rfl
  | 5, _ => rfl
  | 6, _ => rfl
  | 7, _ => rfl
theorem tr_reg (t : Tr) {q : Nat} (h : q < 8) : t.cells[8 + q]? = some (.int .i64 (t.regs q)) := by
  match q, h with
  | 0, _ => rfl
  | 1, _ => rfl
  | 2, _ => rfl
  | 3, _ => rfl
  | 4, _ => rfl
  | 5, _ => rfl
  | 6, _ => rfl
  | 7, _ => rfl
theorem tr_q (t : Tr) : t.cells[16]? = some (.slice t.A t.n t.c) := rfl

/-- Whether an operation can be done: it isn't, each earlier one is or may be passed, and none that waits for stores has some to wait for. -/
def freeB (m : Int) (l : List POp) (d : Nat → Bool) (i : Nat) (o : POp) : Bool := (List.range i).all fun k => d k || (decide (m = 3) && match l[k]? with | some e => passB o e | none => false)
def waitsB (k : Int) : Bool := decide (k = 3) || decide (k = 4)
def canB (m : Int) (l : List POp) (d : Nat → Bool) (qe : Bool) (i : Nat) (o : POp) : Bool := !d i && freeB m l d i o && (!waitsB o.kind || qe)

theorem free_of {m : Int} {l : List POp} {d : Nat → Bool} {i : Nat} {o : POp} (h : ∀ (k : Nat) (e : POp), k < i → l[k]? = some e → d k || (decide (m = 3) && passB o e)) (hi : i ≤ l.length) : freeB m l d i o = true := by
  unfold freeB
  rw [List.all_eq_true]
  intro k hk
  have hk := List.mem_range.1 hk
  have he : l[k]? = some (l[k]'(by omega)) := List.getElem?_eq_getElem (by omega)
  rw [he]
  exact h k _ hk he
theorem free_not {m : Int} {l : List POp} {d : Nat → Bool} {i : Nat} {o : POp} {k : Nat} {e : POp} (hk : k < i) (he : l[k]? = some e) (h : (d k || (decide (m = 3) && passB o e)) = false) : freeB m l d i o = false := by
  unfold freeB
  rw [List.all_eq_false]
  refine ⟨k, List.mem_range.2 hk, ?_⟩
  rw [he]
  simpa using h

set_option maxRecDepth 100000 in
set_option maxHeartbeats 2000000 in
theorem can_any (m : Int) (A : Option Addr) (n c : Nat) (l : List POp) (t : Tr) (i : Nat) (o : POp) (w : World) (hs : Sl w w.heap.size 5 POp.cells A n l) (ho : l[i]? = some o) (hn : n ≤ 8) (hnc : n ≤ c) (_hc : c ≤ 9223372036854775807) (ht : t.q.length = t.n) :
    Calls Try.prog 32 #[.int .i64 m, .slice A n c, .agg t.cells.toArray, .int .i64 i] w
      fun e w' => e = .returned (.bool (canB m l t.done t.q.isEmpty i o)) ∧ Below w.heap.size w w' := by
  have hil : i < n := by rw [← hs.len]; exact (List.getElem?_eq_some_iff.1 ho).1
  have HL := Lib.hid hs.len
  have HT := Lib.hid ht
  have HO := Lib.hid ho
  have HS := Lib.hid hs
  clear ht ho
  obtain ⟨W1, hW1⟩ : ∃ W1, W1 = w.alloc (.cells t.cells.toArray 47) := ⟨_, rfl⟩
  have hb1 : Below w.heap.size w W1 := by rw [hW1]; exact (by repeat (first | (with_reducible exact (Below.refl _ _)) | (with_reducible refine Below.drew ?_) | (with_reducible refine below_drewN ?_ _) | (with_reducible refine Below.setCell ?_ ?_ _; rotate_left; (first | omega | (simp <;> omega))) | (with_reducible refine Below.alloc ?_ ?_ _; rotate_left; (first | omega | (simp <;> omega)))))
  have hz1 : w.heap.size + 1 ≤ W1.heap.size := by rw [hW1]; simp
  have KD := Lib.hid (show ∀ w', Below W1.heap.size W1 w' → ∀ q : Nat, q < 8 → w'.cell? ⟨w.heap.size, q, none⟩ = some (.bool (t.done q)) from fun w' hb q hq => (belc hb (by omega)).trans (by rw [hW1, cell_new _ _ _ _ _ rfl]; exact (by simpa using tr_at t hq)))
  have KQ := Lib.hid (show ∀ w', Below W1.heap.size W1 w' → w'.cell? ⟨w.heap.size, 16, none⟩ = some (.slice t.A t.n t.c) from fun w' hb => (belc hb (by omega)).trans (by rw [hW1, cell_new _ _ _ _ _ rfl]; rfl))
  have d0 := KD.out W1 (Below.refl _ _) i (by omega)
  go_enter Try.func32, Try.ntmps32
  have hiI : (i : Int) < 8 := by omega
  go_upto_region 1 with fail
  rw [← hW1]
  have HW := Lib.hid hW1
  clear hW1
  obtain ⟨ab, ao, rfl, hlo, hat⟩ := HS.out.at_ (by omega)
  have KO := Lib.hid (show ∀ w', Below w.heap.size w w' → ∀ (k : Nat) (e : POp), l[k]? = some e → w'.cell? ⟨ab, ao + k * 5, none⟩ = some (.int .i64 e.kind) ∧ w'.cell? ⟨ab, ao + k * 5 + 1, none⟩ = some (.int .i64 e.word) ∧ w'.cell? ⟨ab, ao + k * 5 + 2, none⟩ = some (.int .i64 e.n) ∧ w'.cell? ⟨ab, ao + k * 5 + 3, none⟩ = some (.int .i64 e.m) ∧ w'.cell? ⟨ab, ao + k * 5 + 4, none⟩ = some (.int .i64 e.reg) from fun w' hb k e he =>
    ⟨(belc hb hlo).trans (hat k e he 0 _ rfl), (belc hb hlo).trans (hat k e he 1 _ rfl), (belc hb hlo).trans (hat k e he 2 _ rfl), (belc hb hlo).trans (hat k e he 3 _ rfl), (belc hb hlo).trans (hat k e he 4 _ rfl)⟩)
  have hltab : ab < w.heap.size := hlo
  clear hat hs
  cases hdi : t.done i with
  | true =>
    rw [hdi] at d0
    have hv := Lib.hid (show canB m l t.done t.q.isEmpty i o = false from by simp [canB, hdi])
    go_wp2
    go_ret
    exact ⟨by rw [hv.out]; rfl, hb1⟩
  | false =>
    rw [hdi] at d0
    have HDI := Lib.hid hdi
    clear hdi
    go_wp2_with fail
    go_loopw [20] (fun s wr => ∃ k : Nat, k ≤ i ∧ s = .int .i64 k ∧ Hid (∀ (j : Nat) (e : POp), j < k → l[j]? = some e → (t.done j || (decide (m = 3) && passB o e)) = true) ∧ Below W1.heap.size W1 wr) (fun s _ => i - (intOf s).toNat)
    case atStart => exact ⟨0, Nat.zero_le _, rfl, Lib.hid (fun j e h => absurd h (by omega)), Below.refl _ _⟩
    case round =>
      obtain ⟨k, hk, rfl, hok, hb⟩ := hrel
      have hbw : Below w.heap.size w wr := hb1.trans (hb.mono hb1.size)
      by_cases hlt : k < i
      · have hltI : (k : Int) < (i : Int) := by omega
        have hknI : (k : Int) < (n : Int) := by omega
        have hk8 : (k : Int) < 8 := by omega
        have hinI : (i : Int) < (n : Int) := by omega
        obtain ⟨e, he⟩ : ∃ e, l[k]? = some e := ⟨_, List.getElem?_eq_getElem (by rw [HL.out]; omega)⟩
        obtain ⟨k0, k1, k2, k3, k4⟩ := KO.out wr hbw k e he
        have HE := Lib.hid he
        have dk := KD.out wr hb k (by omega)
        clear he
        obtain ⟨X, hX⟩ : ∃ X, X = wr.alloc (.cells #[.int .i64 e.kind, .int .i64 e.word, .int .i64 e.n, .int .i64 e.m, .int .i64 e.reg] 51) := ⟨_, rfl⟩
        have hbX : Below wr.heap.size wr X := by rw [hX]; exact (by repeat (first | (with_reducible exact (Below.refl _ _)) | (with_reducible refine Below.drew ?_) | (with_reducible refine below_drewN ?_ _) | (with_reducible refine Below.setCell ?_ ?_ _; rotate_left; (first | omega | (simp <;> omega))) | (with_reducible refine Below.alloc ?_ ?_ _; rotate_left; (first | omega | (simp <;> omega)))))
        have hzX : wr.heap.size + 1 ≤ X.heap.size := by rw [hX]; simp
        have hbWX : Below W1.heap.size W1 X := hb.trans (hbX.mono hb.size)
        have hbwX : Below w.heap.size w X := hbw.trans (hbX.mono hbw.size)
        have KS := Lib.hid (show ∀ w', Below X.heap.size X w' → (fun w' : World => (w'.cell? ⟨wr.heap.size, 0, none⟩ = some (.int .i64 e.kind) ∧ w'.cell? ⟨wr.heap.size, 1, none⟩ = some (.int .i64 e.word) ∧ w'.cell? ⟨wr.heap.size, 2, none⟩ = some (.int .i64 e.n) ∧ w'.cell? ⟨wr.heap.size, 3, none⟩ = some (.int .i64 e.m) ∧ w'.cell? ⟨wr.heap.size, 4, none⟩ = some (.int .i64 e.reg)) ∧ (w'.cell? ⟨ab, ao + i * 5, none⟩ = some (.int .i64 o.kind) ∧ w'.cell? ⟨ab, ao + i * 5 + 1, none⟩ = some (.int .i64 o.word) ∧ w'.cell? ⟨ab, ao + i * 5 + 2, none⟩ = some (.int .i64 o.n) ∧ w'.cell? ⟨ab, ao + i * 5 + 3, none⟩ = some (.int .i64 o.m) ∧ w'.cell? ⟨ab, ao + i * 5 + 4, none⟩ = some (.int .i64 o.reg)) ∧ w'.cell? ⟨w.heap.size, k, none⟩ = some (.bool (t.done k))) w' from fun w' hb' => by
          refine ⟨⟨?_, ?_, ?_, ?_, ?_⟩, KO.out w' (hbwX.trans (hb'.mono hbwX.size)) i o HO.out, KD.out w' (hbWX.trans (hb'.mono hbWX.size)) k (by omega)⟩
          all_goals exact (belc hb' (by omega)).trans (by rw [hX, cell_new _ _ _ _ _ (by simp <;> omega)]; rfl))
        obtain ⟨⟨e0, e1, e2, e3, e4⟩, ⟨o0, o1, o2, o3, o4⟩, od⟩ := KS.out X (Below.refl _ _)
        go_upto_region 6 with fail
        rw [← hX]
        have HX := Lib.hid hX
        clear hX k0 k1 k2 k3 k4
        cases hdk : t.done k with
        | true =>
          have HDK := Lib.hid hdk
          rw [hdk] at od
          clear hdk
          go_quiet (fail)
          go_wp2
          go_roundw
          case rel => exact ⟨k + 1, by omega, by go_num, Lib.hid (fun j e' hj he' => by
            by_cases hjk : j = k
            · subst hjk; rw [HDK.out]; rfl
            · exact hok.out j e' (by omega) he'), below_drewN hbWX _⟩
          case measure => simp [intOf]; omega
        | false =>
          have HDK := Lib.hid hdk
          rw [hdk] at od
          clear hdk
          by_cases hm3 : m = 3
          · subst hm3
            have HDKF := Lib.hid (show ∀ w', Below X.heap.size X w' → (fun w' : World => (w'.cell? ⟨wr.heap.size, 0, none⟩ = some (.int .i64 e.kind) ∧ w'.cell? ⟨wr.heap.size, 1, none⟩ = some (.int .i64 e.word) ∧ w'.cell? ⟨wr.heap.size, 2, none⟩ = some (.int .i64 e.n) ∧ w'.cell? ⟨wr.heap.size, 3, none⟩ = some (.int .i64 e.m) ∧ w'.cell? ⟨wr.heap.size, 4, none⟩ = some (.int .i64 e.reg)) ∧ (w'.cell? ⟨ab, ao + i * 5, none⟩ = some (.int .i64 o.kind) ∧ w'.cell? ⟨ab, ao + i * 5 + 1, none⟩ = some (.int .i64 o.word) ∧ w'.cell? ⟨ab, ao + i * 5 + 2, none⟩ = some (.int .i64 o.n) ∧ w'.cell? ⟨ab, ao + i * 5 + 3, none⟩ = some (.int .i64 o.m) ∧ w'.cell? ⟨ab, ao + i * 5 + 4, none⟩ = some (.int .i64 o.reg)) ∧ w'.cell? ⟨w.heap.size, k, none⟩ = some (.bool false)) w' from fun w' h => by have := KS.out w' h; simp only [HDK.out] at this; exact this)
            cases hp : passB o e with
            | true =>
              have HP := Lib.hid hp
              clear hp
              go_region_held3 (fun w' : World => (w'.cell? ⟨wr.heap.size, 0, none⟩ = some (.int .i64 e.kind) ∧ w'.cell? ⟨wr.heap.size, 1, none⟩ = some (.int .i64 e.word) ∧ w'.cell? ⟨wr.heap.size, 2, none⟩ = some (.int .i64 e.n) ∧ w'.cell? ⟨wr.heap.size, 3, none⟩ = some (.int .i64 e.m) ∧ w'.cell? ⟨wr.heap.size, 4, none⟩ = some (.int .i64 e.reg)) ∧ (w'.cell? ⟨ab, ao + i * 5, none⟩ = some (.int .i64 o.kind) ∧ w'.cell? ⟨ab, ao + i * 5 + 1, none⟩ = some (.int .i64 o.word) ∧ w'.cell? ⟨ab, ao + i * 5 + 2, none⟩ = some (.int .i64 o.n) ∧ w'.cell? ⟨ab, ao + i * 5 + 3, none⟩ = some (.int .i64 o.m) ∧ w'.cell? ⟨ab, ao + i * 5 + 4, none⟩ = some (.int .i64 o.reg)) ∧ w'.cell? ⟨w.heap.size, k, none⟩ = some (.bool false))
                (first | (refine HDKF.out _ ?_; (repeat (first | (with_reducible exact Below.refl _ _) | (with_reducible exact hY) | (with_reducible refine Below.drew ?_))); done))
                (first | (go_at_call 50; refine (passes_any o e _).mono ?_; rintro r Y ⟨rfl, hY⟩; rw [HP.out]; have hY : Below X.heap.size X Y := (Below.drew (Below.refl _ _)).trans hY))
              all_goals
                have hWY := hbWX.trans (hY.mono hbWX.size)
                go_wp2
                go_roundw
                case rel => exact ⟨k + 1, by omega, by go_num, Lib.hid (fun j e' hj he' => by
                  by_cases hjk : j = k
                  · subst hjk; rw [HE.out] at he'; injection he' with he'; subst he'; rw [HP.out]; simp
                  · exact hok.out j e' (by omega) he'), hWY⟩
                case measure => simp [intOf]; omega
            | false =>
              have HP := Lib.hid hp
              clear hp
              have hv := Lib.hid (show canB 3 l t.done t.q.isEmpty i o = false from by
                unfold canB
                rw [free_not hlt HE.out (by simp [HDK.out, HP.out])]; simp)
              go_region_held3 (fun w' : World => (w'.cell? ⟨wr.heap.size, 0, none⟩ = some (.int .i64 e.kind) ∧ w'.cell? ⟨wr.heap.size, 1, none⟩ = some (.int .i64 e.word) ∧ w'.cell? ⟨wr.heap.size, 2, none⟩ = some (.int .i64 e.n) ∧ w'.cell? ⟨wr.heap.size, 3, none⟩ = some (.int .i64 e.m) ∧ w'.cell? ⟨wr.heap.size, 4, none⟩ = some (.int .i64 e.reg)) ∧ (w'.cell? ⟨ab, ao + i * 5, none⟩ = some (.int .i64 o.kind) ∧ w'.cell? ⟨ab, ao + i * 5 + 1, none⟩ = some (.int .i64 o.word) ∧ w'.cell? ⟨ab, ao + i * 5 + 2, none⟩ = some (.int .i64 o.n) ∧ w'.cell? ⟨ab, ao + i * 5 + 3, none⟩ = some (.int .i64 o.m) ∧ w'.cell? ⟨ab, ao + i * 5 + 4, none⟩ = some (.int .i64 o.reg)) ∧ w'.cell? ⟨w.heap.size, k, none⟩ = some (.bool false))
                (first | (refine HDKF.out _ ?_; (repeat (first | (with_reducible exact Below.refl _ _) | (with_reducible exact hY) | (with_reducible refine Below.drew ?_))); done))
                (first | (go_at_call 50; refine (passes_any o e _).mono ?_; rintro r Y ⟨rfl, hY⟩; rw [HP.out]; have hY : Below X.heap.size X Y := (Below.drew (Below.refl _ _)).trans hY))
              all_goals
                have hwY := hbwX.trans (hY.mono hbwX.size)
                go_wp2
                go_ret
                exact ⟨by rw [hv.out]; rfl, hwY⟩
          · have hv := Lib.hid (show canB m l t.done t.q.isEmpty i o = false from by
              unfold canB
              rw [free_not hlt HE.out (by simp [HDK.out, hm3])]; simp)
            have hm3' : (m == 3) = false := by simpa using hm3
            go_quiet (fail)
            go_wp2
            go_ret
            exact ⟨by rw [hv.out]; rfl, below_drewN hbwX _⟩
      · obtain rfl : k = i := by omega
        have hfr := Lib.hid (show freeB m l t.done k o = true from free_of hok.out (by rw [HL.out]; omega))
        obtain ⟨o0, o1, o2, o3, o4⟩ := KO.out wr hbw k o HO.out
        have hq := KQ.out wr hb
        have hinI : (k : Int) < (n : Int) := by omega
        have hv := Lib.hid (show canB m l t.done t.q.isEmpty k o = (!waitsB o.kind || decide (t.n = 0)) from by
          unfold canB
          rw [hfr.out, HDI.out, ← HT.out]
          cases t.q <;> simp)
        have hv2 := hv.out
        clear hv
        have HV := Lib.hid hv2
        clear hv2
        by_cases h3 : o.kind = 3
        · rw [h3] at o0
          by_cases h0 : t.n = 0
          · have hr := Lib.hid (show canB m l t.done t.q.isEmpty k o = true from by rw [HV.out, h0]; simp)
            rw [h0] at hq
            go_wp2
            go_ret
            exact ⟨by rw [hr.out]; rfl, hbw⟩
          · have hr := Lib.hid (show canB m l t.done t.q.isEmpty k o = false from by rw [HV.out, decide_eq_false h0]; simp [waitsB, h3])
            have h0' : ((t.n : Int) == 0) = false := by simp; omega
            go_wp2
            go_ret
            exact ⟨by rw [hr.out]; simp <;> omega, hbw⟩
        · have h3' : (o.kind == 3) = false := by simpa using h3
          by_cases h4 : o.kind = 4
          · have h4' : (o.kind == 4) = true := by simpa using h4
            by_cases h0 : t.n = 0
            · have hr := Lib.hid (show canB m l t.done t.q.isEmpty k o = true from by rw [HV.out, h0]; simp)
              rw [h0] at hq
              go_wp2
              go_ret
              exact ⟨by rw [hr.out]; simp <;> rfl, hbw⟩
            · have hr := Lib.hid (show canB m l t.done t.q.isEmpty k o = false from by rw [HV.out, decide_eq_false h0]; simp [waitsB, h4])
              have h0' : ((t.n : Int) == 0) = false := by simp; omega
              go_wp2
              go_ret
              exact ⟨by rw [hr.out]; simp <;> omega, hbw⟩
          · have h4' : (o.kind == 4) = false := by simpa using h4
            have hr := Lib.hid (show canB m l t.done t.q.isEmpty k o = true from by rw [HV.out]; simp [waitsB, h3, h4])
            go_wp2
            go_ret
            exact ⟨by rw [hr.out]; simp <;> rfl, hbw⟩
end Go.Proofs.Ytnomghcieomjmaa
