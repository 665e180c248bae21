/- A thread alone sees its own stores: plainly. -/
import Derived.Test.YtnomghcieomjmaaMT
namespace Go.Proofs.Ytnomghcieomjmaa
open Go.RowKit

abbrev Rg := (Nat → Int) × (Nat → Int)
/-- One operation, done at once. -/
def seqOp (s : Rg) (o : POp) : Rg :=
  if o.kind = 1 then (upd s.1 o.word.toNat o.n, s.2)
  else if o.kind = 2 then (s.1, upd s.2 o.reg.toNat (s.1 o.word.toNat))
  else if o.kind = 4 then (if s.1 o.word.toNat = o.n then (upd s.1 o.word.toNat o.m, upd s.2 o.reg.toNat 1) else (s.1, upd s.2 o.reg.toNat 0))
  else s
def seqL (l : List POp) : Rg := l.foldl seqOp (mem0, fun _ => 0)
theorem made_word {l : List POp} (h : MadeL l) {i : Nat} {o : POp} (ho : l[i]? = some o) : 0 ≤ o.word ∧ (o.kind = 2 → o.reg = i) := by
  obtain ⟨w, v, k, hw, hv, hk, rfl | rfl | rfl | rfl⟩ := h.2 i o ho <;> simp <;> omega
theorem loadB_nil (mem : Nat → Int) (a : Nat) : loadB mem [] a = mem a := rfl
theorem loadB_snoc (mem : Nat → Int) (q : List Wt) (x : Wt) (a : Nat) : loadB mem (q ++ [x]) a = if x.word = (a : Int) then x.n else loadB mem q a := by
  unfold loadB
  rw [List.reverse_append, List.reverse_singleton, List.singleton_append, List.find?_cons]
  by_cases h : x.word = (a : Int)
  · simp [h]
  · simp [h]
theorem erase_split {α : Type} : ∀ {q : List α} {k : Nat} {x : α}, q[k]? = some x → q = q.take k ++ x :: q.drop (k + 1) ∧ q.eraseIdx k = q.take k ++ q.drop (k + 1)
  | [], k, x, h => by simp at h
  | y :: q, 0, x, h => by simp at h; subst h; simp
  | y :: q, k + 1, x, h => by
    obtain ⟨h1, h2⟩ := erase_split (q := q) (k := k) (x := x) (by simpa using h)
    refine ⟨?_, ?_⟩
    · simp only [List.take_succ_cons, List.drop_succ_cons, List.cons_append]
      rw [← h1]
    · simp only [List.eraseIdx_cons_succ, List.take_succ_cons, List.drop_succ_cons, List.cons_append]
      rw [h2]
/-- A store that arrives, none of the same word being before it, is seen as before. -/
theorem loadB_arr {mem : Nat → Int} {q : List Wt} {k : Nat} {x : Wt} (hx : q[k]? = some x) (h0 : 0 ≤ x.word) (hb : ∀ y ∈ q.take k, y.word ≠ x.word) (a : Nat) : loadB (upd mem x.word.toNat x.n) (q.eraseIdx k) a = loadB mem q a := by
  obtain ⟨e1, e2⟩ := erase_split hx
  rw [e2]
  conv => rhs; rw [e1]
  unfold loadB
  simp only [List.reverse_append, List.reverse_cons, List.append_assoc, List.find?_append]
  cases (q.drop (k + 1)).reverse.find? (fun y => decide (y.word = (a : Int))) with
  | some y => simp
  | none =>
    simp only [Option.none_or, List.find?_cons, List.find?_nil]
    by_cases h : x.word = (a : Int)
    · have hn : (q.take k).reverse.find? (fun y => decide (y.word = (a : Int))) = none := by
        rw [List.find?_eq_none]
        intro y hy
        have := hb y (List.mem_reverse.1 hy)
        rw [h] at this
        simpa using this
      have ha : x.word.toNat = a := by omega
      rw [hn, decide_eq_true h]
      simp [upd, ha]
    · rw [decide_eq_false h]
      have ha : ¬ a = x.word.toNat := by omega
      simp [upd, ha]
theorem arr_before {m : Int} {q : List Wt} {k : Nat} {x : Wt} (h : arrB m q k x = true) : ∀ y ∈ q.take k, y.word ≠ x.word := by
  unfold arrB at h
  split at h
  · have : k = 0 := by simpa using h
    subst this
    intro y hy
    simp at hy
  · intro y hy e
    have h1 : (q.take k).any (fun y => decide (y.word = x.word)) = false := by simpa using h
    rw [List.any_eq_false] at h1
    exact h1 y hy (by simpa using e)
theorem seq_snoc {l : List POp} {p : Nat} {o : POp} (h : l[p]? = some o) : seqL (l.take (p + 1)) = seqOp (seqL (l.take p)) o := by
  rw [List.take_add_one, h]
  simp [seqL, List.foldl_append]

/-- The models that do one operation after the other. -/
structure OwnP (m : Int) (l : List POp) (mem : Nat → Int) (t : Pt) (p : Nat) : Prop where
  le : p ≤ l.length
  done : ∀ i, i < l.length → t.done i = decide (i < p)
  regs : t.regs = (seqL (l.take p)).2
  mem : ∀ a, loadB mem t.q a = (seqL (l.take p)).1 a
  q : ∀ x ∈ t.q, 0 ≤ x.word
  e : queuesB m = false → t.q = []
theorem ownP_start (m : Int) (l : List POp) : OwnP m l mem0 pt0 0 := ⟨Nat.zero_le _, fun i _ => by simp [pt0], by simp [seqL, pt0], fun a => by simp [seqL, pt0, loadB_nil], (fun x hx => by cases hx), fun _ => rfl⟩
theorem ownP_next {m : Int} {l : List POp} {mem : Nat → Int} {t : Pt} {p : Nat} (h : OwnP m l mem t p) (hm : m ≠ 3) {qe : Bool} {i : Nat} {o : POp} (ho : l[i]? = some o) (hc : canB m l t.done qe i o = true) : i = p := by
  have hil := (List.getElem?_eq_some_iff.1 ho).1
  have h1 := can_done hc
  rw [h.done i hil] at h1
  have h2 : ¬ i < p := by simpa using h1
  by_cases hip : i = p
  · exact hip
  · rcases free_at hc (j := p) (by omega) with h3 | ⟨e, _, h3, _⟩
    · rw [h.done p (by omega)] at h3
      simp at h3
    · exact absurd h3 hm
theorem upd_done {l : List POp} {t : Pt} {p : Nat} (h : ∀ i, i < l.length → t.done i = decide (i < p)) : ∀ i, i < l.length → upd t.done p true i = decide (i < p + 1) := fun i hi => by
  unfold upd
  split
  · subst_vars; simp
  · rw [h i hi]; congr 1; exact propext ⟨fun _ => by omega, fun _ => by omega⟩
theorem ownP_op {m : Int} {l : List POp} {mem : Nat → Int} {t : Pt} {p : Nat} (hl : MadeL l) (h : OwnP m l mem t p) (hm : m ≠ 3) {i : Nat} {o : POp} (ho : l[i]? = some o) (hc : canB m l t.done t.q.isEmpty i o = true) : OwnP m l (stepOp m mem t i o).1 (stepOp m mem t i o).2 (p + 1) := by
  obtain rfl := ownP_next h hm ho hc
  obtain ⟨hw, _⟩ := made_word hl ho
  have hil := (List.getElem?_eq_some_iff.1 ho).1
  have hs := seq_snoc ho
  have hd := upd_done h.done
  have hq0 : waitsB o.kind = true → t.q = [] := fun hw => by
    unfold canB at hc
    simp only [Bool.and_eq_true, hw, Bool.not_true, Bool.false_or, List.isEmpty_iff] at hc
    exact hc.2
  unfold stepOp
  unfold seqOp at hs
  by_cases h1 : o.kind = 1
  · rw [if_pos h1] at hs ⊢
    cases hqm : queuesB m with
    | true =>
      rw [if_pos rfl]
      refine ⟨hil, hd, by rw [hs]; exact h.regs, fun a => ?_, fun x hx => ?_, fun h => by rw [hqm] at h; cases h⟩
      · show loadB mem (t.q ++ [⟨o.word, o.n⟩]) a = _
        rw [loadB_snoc, hs, h.mem a]
        show (if o.word = (a : Int) then o.n else _) = upd _ _ _ a
        unfold upd
        by_cases ha : o.word = (a : Int)
        · rw [if_pos ha, if_pos (by omega)]
        · rw [if_neg ha, if_neg (by omega)]
      · rcases List.mem_append.1 hx with hx | hx
        · exact h.q x hx
        · simp at hx; subst hx; exact hw
    | false =>
      rw [if_neg (by decide)]
      have hq := h.e hqm
      refine ⟨hil, hd, by rw [hs]; exact h.regs, fun a => ?_, h.q, fun _ => hq⟩
      have h2 := h.mem
      show loadB _ t.q a = _
      rw [hq] at h2 ⊢
      simp only [loadB_nil] at h2 ⊢
      rw [hs, show mem = (seqL (List.take i l)).1 from funext h2]
  · rw [if_neg h1] at hs ⊢
    by_cases h2 : o.kind = 2
    · rw [if_pos h2] at hs ⊢
      exact ⟨hil, hd, by rw [hs]; simp only [h.regs, h.mem], fun a => by rw [hs]; exact h.mem a, h.q, h.e⟩
    · rw [if_neg h2] at hs ⊢
      by_cases h4 : o.kind = 4
      · rw [if_pos h4] at hs ⊢
        have hq := hq0 (by rw [h4]; rfl)
        have hme : mem = (seqL (List.take i l)).1 := by
          have := h.mem
          rw [hq] at this
          exact funext this
        rw [← hme] at hs
        by_cases hv : mem o.word.toNat = o.n
        · rw [if_pos hv] at hs ⊢
          exact ⟨hil, hd, by rw [hs, h.regs], fun a => by show loadB _ t.q a = _; rw [hs, hq]; rfl, h.q, h.e⟩
        · rw [if_neg hv] at hs ⊢
          exact ⟨hil, hd, by rw [hs, h.regs], fun a => by show loadB _ t.q a = _; rw [hs, hq]; rfl, h.q, h.e⟩
      · rw [if_neg h4] at hs ⊢
        exact ⟨hil, hd, by rw [hs]; exact h.regs, fun a => by rw [hs]; exact h.mem a, h.q, h.e⟩
theorem ownP_st {m : Int} {l : List POp} {mem : Nat → Int} {t : Pt} {p : Nat} (h : OwnP m l mem t p) {k : Nat} {x : Wt} (hx : t.q[k]? = some x) (ha : arrB m t.q k x = true) : OwnP m l (stepSt mem t k x).1 (stepSt mem t k x).2 p :=
  ⟨h.le, h.done, h.regs, fun a => by rw [← h.mem a]; exact loadB_arr hx (h.q x (List.mem_of_getElem? hx)) (arr_before ha) a, fun y hy => h.q y (List.mem_of_mem_eraseIdx hy), fun hqm => by rw [h.e hqm] at hx; simp at hx⟩

/-- The operations that are done, in order. -/
def sel : List POp → (Nat → Bool) → List POp
  | [], _ => []
  | o :: l, d => (if d 0 then [o] else []) ++ sel l (fun i => d (i + 1))
theorem sel_mem : ∀ {l : List POp} {d : Nat → Bool} {x : POp}, x ∈ sel l d → ∃ k, l[k]? = some x ∧ d k = true
  | [], _, _, h => by cases h
  | o :: l, d, x, h => by
    unfold sel at h
    rcases List.mem_append.1 h with h | h
    · split at h
      · rename_i hd
        simp at h; subst h
        exact ⟨0, rfl, hd⟩
      · cases h
    · obtain ⟨k, h1, h2⟩ := sel_mem h
      exact ⟨k + 1, h1, h2⟩
theorem sel_upd : ∀ {l : List POp} {d : Nat → Bool} {i : Nat} {o : POp}, l[i]? = some o → d i = false → ∃ a b, sel l d = a ++ b ∧ sel l (upd d i true) = a ++ o :: b ∧ ∀ x ∈ b, ∃ k, i < k ∧ l[k]? = some x ∧ d k = true
  | [], _, i, o, h, _ => by simp at h
  | y :: l, d, 0, o, h, hd => by
    simp at h; subst h
    refine ⟨[], sel l (fun i => d (i + 1)), by simp [sel, hd], by simp [sel, upd], fun x hx => ?_⟩
    obtain ⟨k, h1, h2⟩ := sel_mem hx
    exact ⟨k + 1, by omega, h1, h2⟩
  | y :: l, d, i + 1, o, h, hd => by
    obtain ⟨a, b, h1, h2, h3⟩ := sel_upd (l := l) (d := fun j => d (j + 1)) (i := i) (o := o) (by simpa using h) hd
    refine ⟨(if d 0 then [y] else []) ++ a, b, by simp only [sel, h1, List.append_assoc], ?_, fun x hx => ?_⟩
    · have e : (fun j => upd d (i + 1) true (j + 1)) = upd (fun j => d (j + 1)) i true := by
        funext j
        unfold upd
        by_cases hj : j = i
        · rw [if_pos hj, if_pos (by omega)]
        · rw [if_neg hj, if_neg (by omega)]
      simp only [sel, e, h2, List.append_assoc]
      rw [show upd d (i + 1) true 0 = d 0 from by simp [upd]]
    · obtain ⟨k, k1, k2, k3⟩ := h3 x hx
      exact ⟨k + 1, by omega, k2, k3⟩
theorem sel_none : ∀ (l : List POp), sel l (fun _ => false) = []
  | [] => rfl
  | _ :: l => by simp [sel, sel_none l]
theorem sel_all : ∀ {l : List POp} {d : Nat → Bool}, (∀ i, i < l.length → d i = true) → sel l d = l
  | [], _, _ => rfl
  | o :: l, d, h => by
    unfold sel
    rw [sel_all (l := l) (d := fun i => d (i + 1)) (fun i hi => h (i + 1) (by simpa using hi)), if_pos (h 0 (by simp))]; rfl
theorem upd_comm {f : Nat → Int} {i j : Nat} (h : i ≠ j) (u v : Int) : upd (upd f i u) j v = upd (upd f j v) i u := by
  funext k
  unfold upd
  by_cases h1 : k = j
  · rw [if_pos h1, if_neg (by omega), if_pos h1]
  · rw [if_neg h1, if_neg h1]
theorem seq_comm {s : Rg} {x o : POp} (hp : passB x o = true) (hx : 0 ≤ x.word) (ho : 0 ≤ o.word) (hr : x.kind = 2 → o.kind = 2 → x.reg.toNat ≠ o.reg.toNat) : seqOp (seqOp s x) o = seqOp (seqOp s o) x := by
  unfold passB simpleB at hp
  simp only [Bool.and_eq_true, Bool.or_eq_true, decide_eq_true_eq, Bool.not_eq_true', decide_eq_false_iff_not] at hp
  obtain ⟨⟨h1, h2⟩, h3⟩ := hp
  have hw : x.word.toNat ≠ o.word.toNat := by omega
  have hw' : ¬ o.word.toNat = x.word.toNat := fun e => hw e.symm
  have ux : ∀ (f : Nat → Int) (v : Int), upd f x.word.toNat v o.word.toNat = f o.word.toNat := fun f v => by simp [upd, hw']
  have uo : ∀ (f : Nat → Int) (v : Int), upd f o.word.toNat v x.word.toNat = f x.word.toNat := fun f v => by simp [upd, hw]
  rcases h1 with h1 | h1 <;> rcases h2 with h2 | h2
  · simp [seqOp, h1, h2]; exact upd_comm (hr h1 h2) _ _
  · simp [seqOp, h1, h2, uo]
  · simp [seqOp, h1, h2, ux]
  · simp [seqOp, h1, h2]; exact upd_comm hw _ _
theorem seq_move : ∀ {b : List POp} {s : Rg} {o : POp}, (∀ x ∈ b, passB x o = true ∧ 0 ≤ x.word ∧ (x.kind = 2 → o.kind = 2 → x.reg.toNat ≠ o.reg.toNat)) → 0 ≤ o.word → seqOp (b.foldl seqOp s) o = b.foldl seqOp (seqOp s o)
  | [], _, _, _, _ => rfl
  | x :: b, s, o, h, ho => by
    obtain ⟨h1, h2, h3⟩ := h x (List.mem_cons_self ..)
    rw [List.foldl_cons, List.foldl_cons, seq_move (fun y hy => h y (List.mem_cons_of_mem _ hy)) ho, seq_comm h1 h2 ho h3]

/-- The model that does operations out of order. -/
structure OwnR (l : List POp) (mem : Nat → Int) (t : Pt) : Prop where
  q : t.q = []
  ord : ∀ (j k : Nat) (x y : POp), j < k → l[j]? = some x → l[k]? = some y → t.done k = true → t.done j = false → passB y x = true
  st : (mem, t.regs) = (sel l t.done).foldl seqOp (mem0, fun _ => 0)
theorem ownR_start (l : List POp) : OwnR l mem0 pt0 := ⟨rfl, (fun j k x y _ _ _ h _ => by cases h), by show _ = (sel l (fun _ => false)).foldl _ _; rw [sel_none]; rfl⟩
theorem stepOp_seq {m : Int} {mem : Nat → Int} {t : Pt} {i : Nat} {o : POp} (hq : t.q = []) (hm : queuesB m = false) : ((stepOp m mem t i o).1, (stepOp m mem t i o).2.regs) = seqOp (mem, t.regs) o ∧ (stepOp m mem t i o).2.q = [] := by
  unfold stepOp seqOp doneT
  rw [hm]
  by_cases h1 : o.kind = 1
  · simp [h1, hq]
  · by_cases h2 : o.kind = 2
    · simp [h2, hq, loadB_nil]
    · by_cases h4 : o.kind = 4
      · simp [h4, hq]
        split <;> simp
      · simp [h1, h2, h4, hq]
theorem ownR_op {l : List POp} {mem : Nat → Int} {t : Pt} (hl : MadeL l) (h : OwnR l mem t) {i : Nat} {o : POp} (ho : l[i]? = some o) {qe : Bool} (hc : canB 3 l t.done qe i o = true) : OwnR l (stepOp 3 mem t i o).1 (stepOp 3 mem t i o).2 := by
  have hd := can_done hc
  obtain ⟨h1, h2⟩ := stepOp_seq (m := 3) (mem := mem) (t := t) (i := i) (o := o) h.q rfl
  refine ⟨h2, fun j k x y hjk hx hy hk hj => ?_, ?_⟩
  · rw [stepOp_done] at hk hj
    have hji : j ≠ i := fun e => by subst e; simp [upd] at hj
    have hj' : t.done j = false := by simpa [upd, hji] using hj
    by_cases hki : k = i
    · subst hki
      rw [ho] at hy
      injection hy with hy
      subst hy
      rcases free_at hc hjk with h3 | ⟨e, he, _, h3⟩
      · rw [hj'] at h3; cases h3
      · rw [hx] at he; injection he with he; subst he; exact h3
    · exact h.ord j k x y hjk hx hy (by simpa [upd, hki] using hk) hj'
  · obtain ⟨a, b, e1, e2, h3⟩ := sel_upd ho hd
    rw [h1, stepOp_done, e2, h.st, e1, List.foldl_append, List.foldl_append, List.foldl_cons]
    refine seq_move (fun x hx => ?_) (made_word hl ho).1
    obtain ⟨k, hk, hxk, hdk⟩ := h3 x hx
    refine ⟨h.ord i k o x hk ho hxk hdk hd, (made_word hl hxk).1, fun e3 e4 => ?_⟩
    rw [(made_word hl hxk).2 e3, (made_word hl ho).2 e4]
    omega

/-- A thread alone. -/
def Own (m : Int) (l : List POp) (mem : Nat → Int) (ts : List Pt) : Prop := ∃ t, ts = [t] ∧ ((m ≠ 3 ∧ ∃ p, OwnP m l mem t p) ∨ (m = 3 ∧ OwnR l mem t))
theorem own_start (m : Int) (l : List POp) : Own m l mem0 [pt0] := by
  refine ⟨pt0, rfl, ?_⟩
  by_cases h : m = 3
  · exact .inr ⟨h, ownR_start l⟩
  · exact .inl ⟨h, 0, ownP_start m l⟩
theorem own_stp {m : Int} {l : List POp} {mem mem' : Nat → Int} {ts ts' : List Pt} {v : Mv} (hl : MadeL l) (h : Own m l mem ts) (hs : Stp m [l] mem ts v mem' ts') : Own m l mem' ts' := by
  obtain ⟨t, rfl, h⟩ := h
  have one : ∀ {α : Type} {k : Nat} {a b : α}, ([a] : List α)[k]? = some b → k = 0 ∧ a = b := fun {α k a b} h => by
    match k, h with
    | 0, h => simp at h; exact ⟨rfl, h⟩
    | k + 1, h => simp at h
  cases hs with
  | op k l' t' i o hl' ht ho hc =>
    obtain ⟨rfl, rfl⟩ := one hl'
    obtain ⟨_, rfl⟩ := one ht
    refine ⟨_, rfl, ?_⟩
    rcases h with ⟨hm, p, h⟩ | ⟨rfl, h⟩
    · exact .inl ⟨hm, p + 1, ownP_op hl h hm ho hc⟩
    · exact .inr ⟨rfl, ownR_op hl h ho hc⟩
  | st k l' t' i x hl' ht hx ha =>
    obtain ⟨rfl, rfl⟩ := one hl'
    obtain ⟨_, rfl⟩ := one ht
    refine ⟨_, rfl, ?_⟩
    rcases h with ⟨hm, p, h⟩ | ⟨rfl, h⟩
    · exact .inl ⟨hm, p, ownP_st h hx ha⟩
    · rw [h.q] at hx; simp at hx
/-- At the end its registers and the memory are those of doing one operation after the other. -/
theorem own_end {m : Int} {l : List POp} {mem : Nat → Int} {ts : List Pt} (h : Own m l mem ts) (he : endedP [l] ts = true) : ∃ t, ts = [t] ∧ t.regs = (seqL l).2 ∧ mem = (seqL l).1 := by
  obtain ⟨t, rfl, h⟩ := h
  refine ⟨t, rfl, ?_⟩
  cases hE : endT l t with
  | false => rw [ended_not (k := 0) (ths := [l]) (ts := [t]) rfl rfl hE] at he; cases he
  | true =>
    unfold endT at hE
    simp only [Bool.and_eq_true, List.all_eq_true, List.mem_range, List.isEmpty_iff] at hE
    obtain ⟨⟨hq, _⟩, hd⟩ := hE
    rcases h with ⟨hm, p, h⟩ | ⟨rfl, h⟩
    · have hp : l.take p = l := by
        apply List.take_of_length_le
        by_cases h0 : l.length = 0
        · omega
        · have h1 := hd (l.length - 1) (by omega)
          rw [h.done _ (by omega)] at h1
          have : l.length - 1 < p := by simpa using h1
          omega
      have h1 := h.regs
      have h2 := h.mem
      rw [hp] at h1 h2
      refine ⟨h1, funext fun a => ?_⟩
      have := h2 a
      rw [hq] at this
      exact this
    · have h1 := h.st
      rw [sel_all hd] at h1
      unfold seqL
      rw [← h1]
      exact ⟨rfl, rfl⟩
/-- In order there is one move at a time. -/
theorem own_one {l : List POp} {mem : Nat → Int} {ts : List Pt} (h : Own 0 l mem ts) (hk : okB 0 [l] ts = true) (h8 : l.length ≤ 8) (hne : endedP [l] ts = false) : (movesP 0 [l] ts).length = 1 := by
  have hmv := has_move hk (fun x hx => by simp at hx; subst hx; exact h8) hne
  obtain ⟨t, rfl, h⟩ := h
  rcases h with ⟨_, p, h⟩ | ⟨h0, _⟩
  · have hq := h.e rfl
    have key : ∀ i, i ≤ l.length → (ops1 0 0 l t i).length = if p < i then 1 else 0 := fun i => by
      induction i with
      | zero => intro _; simp [ops1]
      | succ i ih =>
        intro hi
        have ih := ih (by omega)
        have ho : l[i]? = some l[i] := List.getElem?_eq_getElem (by omega)
        rw [ops1_succ 0 0 l t i _ ho, List.length_append, ih]
        by_cases hc : canB 0 l t.done t.q.isEmpty i l[i] = true
        · obtain rfl := ownP_next h (by decide) ho hc
          rw [if_pos hc]
          simp
        · have hip : i ≠ p := fun e => by
            subst e
            apply hc
            unfold canB
            rw [h.done i (by omega), hq, free_of (fun k e hk _ => by rw [h.done k (by omega), decide_eq_true hk]; rfl) (by omega)]
            simp
          rw [if_neg hc]
          by_cases hpi : p < i
          · rw [if_pos hpi, if_pos (by omega)]; rfl
          · rw [if_neg hpi, if_neg (by omega)]; rfl
    have e : movesP 0 [l] [t] = ops1 0 0 l t l.length := by
      unfold movesP
      rw [hk]
      simp [mvs, List.range_succ, thMv, hq, sts1]
    rw [e] at hmv ⊢
    have hl := key l.length (Nat.le_refl _)
    split at hl
    · exact hl
    · exact absurd (List.eq_nil_of_length_eq_zero hl) hmv
  · cases h0
end Go.Proofs.Ytnomghcieomjmaa
