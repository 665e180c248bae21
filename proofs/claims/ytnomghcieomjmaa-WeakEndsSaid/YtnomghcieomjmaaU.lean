/- A run: what it gives. -/
import Derived.Test.YtnomghcieomjmaaQ
import Derived.Test.YtnomghcieomjmaaT
namespace Go.Proofs.Ytnomghcieomjmaa
open Go.RowKit

theorem inv_stp {m : Int} {ths : List (List POp)} {mem mem' : Nat → Int} {ts ts' : List Pt} {v : Mv} (hv : validT ths = true) (hi : Inv ts) (h : Stp m ths mem ts v mem' ts') : Inv ts' := by
  cases h with
  | op k l t i o hl ht ho hc =>
    have hf := formed_of_valid hv hl ho
    have hw := word_of_formed hf
    have h8 := short_of_valid hv (List.mem_of_getElem? hl)
    have hil := (List.getElem?_eq_some_iff.1 ho).1
    exact inv_set hi (inv_op (hi t (List.mem_of_getElem? ht)) (by omega) (can_done hc) hw)
  | st k l t i x hl ht hx ha => exact inv_set hi (inv_st (hi t (List.mem_of_getElem? ht)))
theorem stp_len {m : Int} {ths : List (List POp)} {mem mem' : Nat → Int} {ts ts' : List Pt} {v : Mv} (h : Stp m ths mem ts v mem' ts') : ts'.length = ts.length := by
  cases h <;> simp

/-- A state in memory that a program's threads may have reached. -/
structure Okay (w : World) (A : Option Addr) (n c : Nat) (ts : List Tr) : Prop where
  s : Sts w w.heap.size A n ts
  r : Roomy ts
  i : Inv (ts.map Tr.pt)
  c1 : n ≤ c
  c2 : c ≤ 9223372036854775807
  n3 : n ≤ 3
theorem Okay.up {w w' : World} {A : Option Addr} {n c : Nat} {ts : List Tr} (h : Okay w A n c ts) (hb : Below w.heap.size w w') : Okay w' A n c ts := ⟨h.s.up hb, h.r, h.i, h.c1, h.c2, h.n3⟩
theorem Okay.words {w : World} {A : Option Addr} {n c : Nat} {ts : List Tr} (h : Okay w A n c ts) : Words ts := fun t ht x hx => (h.i t.pt (List.mem_map.2 ⟨t, ht, rfl⟩)).1 x hx
theorem Okay.few {w : World} {A : Option Addr} {n c : Nat} {ts : List Tr} (h : Okay w A n c ts) : ∀ t ∈ ts, t.n ≤ 900 := fun t ht => by
  have h1 := (h.i t.pt (List.mem_map.2 ⟨t, ht, rfl⟩)).2
  have h2 := dn_le t.pt.done
  have h3 := (h.s.q t ht).len
  have h4 : t.pt.q.length = t.n := h3
  omega
/-- What a move that is possible gives. -/
def GivesOk (m : Int) (ths : List (List POp)) (mem : Nat → Int) (pts : List Pt) (v : Mv) (w : World) (e : Ending) (w' : World) : Prop := ∃ A n c ts, e = .returned (.tuple #[stVal (stepF m ths mem pts v).1 A n c, .int .i64 0]) ∧ Okay w' A n c ts ∧ ts.map Tr.pt = (stepF m ths mem pts v).2 ∧ Below w.heap.size w w' ∧ (∀ ad, A = some ad → w.heap.size ≤ ad.block) ∧ (∀ t ∈ ts, ∀ ad, t.A = some ad → w.heap.size ≤ ad.block)
theorem do_ok (m : Int) (A : Option Addr) (n c : Nat) (l : List Th) (mem : Nat → Int) (SA : Option Addr) (sn sc : Nat) (ts : List Tr) (v : Mv) (w : World)
    (hT : Ths w w.heap.size A n l) (hn : n ≤ 9000000000000) (hm : ∀ t ∈ l, t.n ≤ 9000000000000) (hro : Rooms l) (hS : Okay w SA sn sc ts) (hval : validT (l.map Th.s) = true) (hv : v ∈ movesP m (l.map Th.s) (ts.map Tr.pt)) :
    Calls Try.prog 15 #[.int .i64 m, .slice A n c, stVal mem SA sn sc, .agg #[.int .i64 v.thread, .int .i64 v.op, .int .i64 v.store]] w (GivesOk m (l.map Th.s) mem (ts.map Tr.pt) v w) := by
  refine (do_any m A n c l mem SA sn sc ts v w hT hn hm hro hS.s hS.r (by have := hS.n3; omega) hS.words hS.few).mono ?_
  rintro e w' (⟨h, _⟩ | ⟨_, h, _⟩ | ⟨_, mem', pts', hst, A', n', c', ts', rfl, hs', hr', hpt', hb', hc1, hc2, hl1, hl2⟩)
  · rw [hval] at h; cases h
  · exact absurd hv h
  · have hf := stp_fun hst
    refine ⟨A', n', c', ts', by rw [hf], ⟨hs', hr', ?_, hc1, hc2, ?_⟩, by rw [hf]; exact hpt', hb', hl1, hl2⟩
    · rw [hpt']; exact inv_stp hval hS.i hst
    · have h1 := hs'.sl.len
      have h2 := hS.s.sl.len
      have h3 := stp_len hst
      have h4 := congrArg List.length hpt'
      rw [List.length_map] at h3 h4
      have := hS.n3
      omega
theorem do_bad (m : Int) (A : Option Addr) (n c : Nat) (l : List Th) (mem : Nat → Int) (SA : Option Addr) (sn sc : Nat) (ts : List Tr) (v : Mv) (w : World)
    (hT : Ths w w.heap.size A n l) (hn : n ≤ 9000000000000) (hm : ∀ t ∈ l, t.n ≤ 9000000000000) (hro : Rooms l) (hS : Okay w SA sn sc ts) (hval : validT (l.map Th.s) = true) (hv : ¬ v ∈ movesP m (l.map Th.s) (ts.map Tr.pt)) :
    Calls Try.prog 15 #[.int .i64 m, .slice A n c, stVal mem SA sn sc, .agg #[.int .i64 v.thread, .int .i64 v.op, .int .i64 v.store]] w (GivesSt mem0 [] 7 w) := by
  refine (do_any m A n c l mem SA sn sc ts v w hT hn hm hro hS.s hS.r (by have := hS.n3; omega) hS.words hS.few).mono ?_
  rintro e w' (⟨h, _⟩ | ⟨_, _, h⟩ | ⟨h, _⟩)
  · rw [hval] at h; cases h
  · exact h
  · exact absurd h hv
/-- A store into a block that holds nothing of it keeps a state. -/
theorem Okay.grownAway {w w' : World} {A : Option Addr} {n c b : Nat} {ts : List Tr} (h : Okay w A n c ts) (hg : w.grownBy w' (some b)) (hA : ∀ ad, A = some ad → ad.block ≠ b) (hT : ∀ t ∈ ts, ∀ ad, t.A = some ad → ad.block ≠ b) : Okay w' A n c ts :=
  ⟨⟨(h.s.sl.grown (Nat.le_refl _) hg (fun _ ad e e2 => by injection e2 with e2; exact hA ad e e2.symm)).mono hg.size, fun t ht => ((h.s.q t ht).grown (Nat.le_refl _) hg (fun _ ad e e2 => by injection e2 with e2; exact hT t ht ad e e2.symm)).mono hg.size⟩, h.r, h.i, h.c1, h.c2, h.n3⟩
/-- The first state. -/
theorem new_ok (A : Option Addr) (n c : Nat) (l : List Th) (w : World) (hs : Ths w w.heap.size A n l) (hn : n ≤ 9000000000000) (hm : ∀ t ∈ l, t.n ≤ 9000000000000) (hval : validT (l.map Th.s) = true) :
    Calls Try.prog 11 #[.slice A n c] w fun e w' => ∃ A' c', e = .returned (.tuple #[stVal mem0 A' n c', .int .i64 0]) ∧ Okay w' A' n c' (List.replicate n tr0) ∧ Below w.heap.size w w' ∧ (∀ ad, A' = some ad → w.heap.size ≤ ad.block ∧ ad.block < w'.heap.size) := by
  have h := new_any A n c l w hs hn hm
  rw [if_pos hval] at h
  refine h.mono ?_
  rintro e w' ⟨A', c', rfl, hs', hb', hc1, hc2, hl⟩
  refine ⟨A', c', rfl, ⟨hs', fun t ht => ?_, fun p hp => ?_, hc1, hc2, ?_⟩, hb', hl⟩
  · rw [List.eq_of_mem_replicate ht]
    exact ⟨Nat.le_refl _, by show 0 ≤ _; omega, by show 0 ≤ _; omega⟩
  · obtain ⟨t, ht, rfl⟩ := List.mem_map.1 hp
    rw [List.eq_of_mem_replicate ht]
    exact ⟨fun x hx => (by cases hx), Nat.zero_le _⟩
  · have h3 := few_of_valid hval
    rw [List.length_map, hs.sl.len] at h3
    omega
end Go.Proofs.Ytnomghcieomjmaa
