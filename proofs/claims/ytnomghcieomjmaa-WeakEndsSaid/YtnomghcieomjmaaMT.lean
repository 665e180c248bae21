/- Threads that are made are valid; when nothing is left all is done; with fences one operation is done after the other: plainly. -/
import Derived.Test.YtnomghcieomjmaaV
namespace Go.Proofs.Ytnomghcieomjmaa
open Go.RowKit

/-- An operation that may be made at place j. -/
def MadeOp (j : Nat) (o : POp) : Prop := ∃ w v k : Int, (0 ≤ w ∧ w ≤ 2) ∧ (1 ≤ v ∧ v ≤ 2) ∧ (0 ≤ k ∧ k ≤ 1) ∧ (o = ⟨1, w, v, 0, 0⟩ ∨ o = ⟨2, w, 0, 0, j⟩ ∨ o = ⟨3, 0, 0, 0, 0⟩ ∨ o = ⟨4, w, k, v, j⟩)
def MadeL (l : List POp) : Prop := l.length ≤ 4 ∧ ∀ (j : Nat) (o : POp), l[j]? = some o → MadeOp j o
def MadeT (ls : List (List POp)) : Prop := (1 ≤ ls.length ∧ ls.length ≤ 3) ∧ ∀ l ∈ ls, MadeL l
theorem made_formed {j : Nat} {o : POp} (h : MadeOp j o) (hj : j ≤ 7) : formedB o = true ∧ (shR o.kind = true → o.reg = j) := by
  obtain ⟨w, v, k, hw, hv, hk, rfl | rfl | rfl | rfl⟩ := h <;> simp [formedB, fitsB, shOk, shW, shN, shM, shR] <;> omega
theorem scan_asc : ∀ {l : List POp} {u : List Int}, (∀ o ∈ l, formedB o = true) → (∀ x ∈ u, ∀ o ∈ l, shR o.kind = true → x < o.reg) → l.Pairwise (fun a c => shR a.kind = true → shR c.kind = true → a.reg < c.reg) → scanB u l = true
  | [], _, _, _, _ => rfl
  | o :: l, u, hf, hu, hp => by
    obtain ⟨h1, h2⟩ := List.pairwise_cons.1 hp
    unfold scanB
    have ho := hf o (List.mem_cons_self ..)
    have hl : ∀ a ∈ l, formedB a = true := fun a ha => hf a (List.mem_cons_of_mem _ ha)
    rw [ho, Bool.true_and, Bool.and_eq_true]
    refine ⟨?_, ?_⟩
    · cases hr : shR o.kind with
      | false => rfl
      | true =>
        have : u.contains o.reg = false := by
          rw [Bool.eq_false_iff]
          intro hc
          have hm := List.elem_iff.1 hc
          have := hu _ hm o (List.mem_cons_self ..) hr
          omega
        rw [this]; rfl
    · refine scan_asc hl (fun x hx a ha hra => ?_) h2
      split at hx
      · rename_i hr
        rcases List.mem_cons.1 hx with rfl | hx
        · exact h1 a ha hr hra
        · exact hu x hx a (List.mem_cons_of_mem _ ha) hra
      · exact hu x hx a (List.mem_cons_of_mem _ ha) hra
theorem made_thread {l : List POp} (h : MadeL l) : threadB l = true := by
  unfold threadB
  rw [decide_eq_true (show l.length ≤ 8 by have := h.1; omega), Bool.true_and]
  have key : ∀ (j : Nat) (o : POp), l[j]? = some o → formedB o = true ∧ (shR o.kind = true → o.reg = j) := fun j o ho => made_formed (h.2 j o ho) (by have := (List.getElem?_eq_some_iff.1 ho).1; have := h.1; omega)
  refine scan_asc (fun o ho => ?_) (fun x hx => by cases hx) (List.pairwise_iff_getElem.2 fun i j hi hj hij h1 h2 => ?_)
  · obtain ⟨j, hj⟩ := List.getElem?_of_mem ho
    exact (key j o hj).1
  · have a := (key i l[i] (List.getElem?_eq_getElem hi)).2 h1
    have b := (key j l[j] (List.getElem?_eq_getElem hj)).2 h2
    omega
theorem made_valid {ls : List (List POp)} (h : MadeT ls) : validT ls = true := by
  unfold validT
  rw [decide_eq_true h.1, Bool.true_and, List.all_eq_true]
  exact fun l hl => made_thread (h.2 l hl)

/-- When all is done there is no move. -/
theorem no_move {m : Int} {ths : List (List POp)} {ts : List Pt} (h : endedP ths ts = true) : movesP m ths ts = [] := by
  rw [List.eq_nil_iff_forall_not_mem]
  intro v hv
  obtain ⟨_, k, l, t, hl, ht, hc⟩ := mem_moves.1 hv
  cases hE : endT l t with
  | false => rw [ended_not hl ht hE] at h; cases h
  | true =>
    unfold endT at hE
    simp only [Bool.and_eq_true, List.all_eq_true, List.mem_range, List.isEmpty_iff] at hE
    rcases hc with ⟨i, o, ho, hc, _⟩ | ⟨i, x, hx, _, _⟩
    · have h1 := hE.2 i (List.getElem?_eq_some_iff.1 ho).1
      rw [can_done hc] at h1
      cases h1
    · rw [hE.1.1] at hx
      cases hx
/-- What is left of a first state: two steps for each operation. -/
theorem left_new : ∀ (ls : List (List POp)), left2 ls (List.replicate ls.length pt0) = (ls.map fun l => 2 * l.length).sum
  | [] => rfl
  | l :: ls => by
    rw [List.length_cons, List.replicate_succ, List.map_cons, List.sum_cons, ← left_new ls]
    show left1 l pt0 + _ = _
    have : left1 l pt0 = 2 * l.length := by
      unfold left1 undone pt0
      simp only [Bool.not_false, List.length_nil, Nat.add_zero]
      rw [List.filter_eq_self.2 (fun _ _ => rfl), List.length_range]
    rw [this]
/-- A state in which not all is done has something left. -/
theorem left_pos {m : Int} {ths : List (List POp)} {ts : List Pt} (hk : okB m ths ts = true) (h8 : ∀ l ∈ ths, l.length ≤ 8) (hne : endedP ths ts = false) : 0 < left2 ths ts := by
  have h := has_move hk h8 hne
  cases hv : movesP m ths ts with
  | nil => exact absurd hv h
  | cons v r =>
    obtain ⟨mem', ts', hs⟩ := mem_stp (fun _ => 0) (show v ∈ movesP m ths ts by rw [hv]; exact List.mem_cons_self ..)
    have := stp_left hs
    omega
/-- What is left depends on what is seen of a state only. -/
theorem undone_like {n : Nat} {d d' : Nat → Bool} (h : ∀ i, i < n → d i = d' i) : undone n d = undone n d' := by
  unfold undone
  congr 1
  refine List.filter_congr fun i hi => ?_
  rw [h i (List.mem_range.1 hi)]
def LikeT (t u : Pt) : Prop := (∀ i, i < 8 → t.done i = u.done i) ∧ t.q = u.q
theorem left_like : ∀ {ls : List (List POp)} {ts us : List Pt}, (∀ l ∈ ls, l.length ≤ 8) → ts.length = us.length → (∀ (k : Nat) (t u : Pt), ts[k]? = some t → us[k]? = some u → LikeT t u) → left2 ls ts = left2 ls us
  | [], _, _, _, _, _ => by unfold left2; rfl
  | _ :: _, [], [], _, _, _ => rfl
  | _ :: _, [], _ :: _, _, h, _ => by cases h
  | _ :: _, _ :: _, [], _, h, _ => by cases h
  | l :: ls, t :: ts, u :: us, h8, hl, h => by
    have h0 := h 0 t u rfl rfl
    have ih := left_like (ls := ls) (ts := ts) (us := us) (fun a ha => h8 a (List.mem_cons_of_mem _ ha)) (by simpa using hl) (fun k a b ha hb => h (k + 1) a b (by simpa using ha) (by simpa using hb))
    have h1 : l.length ≤ 8 := h8 l (List.mem_cons_self ..)
    simp only [left2, left1, ih, h0.2]
    rw [undone_like (n := l.length) (fun i hi => h0.1 i (by omega))]

/-- An operation after the other, a fence between any two. -/
def fence : POp := ⟨3, 0, 0, 0, 0⟩
def fenAt (l : List POp) (i : Nat) : POp := if i % 2 = 1 then fence else (l[i / 2]?).getD fence
def fen (l : List POp) (k : Nat) : List POp := (List.range (2 * k - 1)).map (fenAt l)
theorem fen_len (l : List POp) (k : Nat) : (fen l k).length = 2 * k - 1 := by simp [fen]
theorem fen_get {l : List POp} {k i : Nat} {o : POp} (h : (fen l k)[i]? = some o) : i < 2 * k - 1 ∧ o = fenAt l i := by
  unfold fen at h
  rw [List.getElem?_map, Option.map_eq_some_iff] at h
  obtain ⟨j, hj, rfl⟩ := h
  have h1 := (List.getElem?_eq_some_iff.1 hj).1
  rw [List.length_range] at h1
  rw [List.getElem?_range h1] at hj
  injection hj with hj
  subst hj
  exact ⟨h1, rfl⟩
theorem fen_one (l : List POp) (o : POp) (h : l[0]? = some o) : fen l 1 = [o] := by simp [fen, fenAt, h, List.range_succ]
theorem fen_succ (l : List POp) (k : Nat) (o : POp) (hk : 0 < k) (h : l[k]? = some o) : fen l (k + 1) = fen l k ++ [fence] ++ [o] := by
  unfold fen
  obtain ⟨j, rfl⟩ : ∃ j, k = j + 1 := ⟨k - 1, by omega⟩
  rw [show 2 * (j + 1 + 1) - 1 = (2 * j + 1) + 1 + 1 from by omega, show 2 * (j + 1) - 1 = 2 * j + 1 from by omega, List.range_succ, List.range_succ (n := 2 * j + 1), List.map_append, List.map_append]
  congr 2
  · simp [fenAt, show (2 * j + 1) % 2 = 1 from by omega]
  · simp [fenAt, show (2 * j + 1 + 1) % 2 = 0 from by omega, show (2 * j + 1 + 1) / 2 = j + 1 from by omega, h]
theorem fen_thread {l : List POp} (h : MadeL l) : threadB (fen l l.length) = true := by
  unfold threadB
  have hl := h.1
  rw [decide_eq_true (show (fen l l.length).length ≤ 8 by rw [fen_len]; omega), Bool.true_and]
  have key : ∀ (i : Nat) (o : POp), (fen l l.length)[i]? = some o → formedB o = true ∧ (shR o.kind = true → o.reg = (i / 2 : Nat) ∧ i % 2 = 0) := fun i o ho => by
    obtain ⟨h1, rfl⟩ := fen_get ho
    unfold fenAt
    split
    · exact ⟨by decide, fun h => by simp [fence, shR] at h⟩
    · rename_i h2
      have h3 : i / 2 < l.length := by omega
      rw [List.getElem?_eq_getElem h3]
      have := made_formed (h.2 (i / 2) _ (List.getElem?_eq_getElem h3)) (by omega)
      exact ⟨this.1, fun hr => ⟨this.2 hr, by omega⟩⟩
  refine scan_asc (fun o ho => ?_) (fun x hx => by cases hx) (List.pairwise_iff_getElem.2 fun i j hi hj hij h1 h2 => ?_)
  · obtain ⟨j, hj⟩ := List.getElem?_of_mem ho
    exact (key j o hj).1
  · have a := (key i _ (List.getElem?_eq_getElem hi)).2 h1
    have b := (key j _ (List.getElem?_eq_getElem hj)).2 h2
    have h3 : i / 2 < j / 2 := by omega
    omega
def fenT (ls : List (List POp)) : List (List POp) := ls.map fun l => fen l l.length
theorem fen_valid {ls : List (List POp)} (h : MadeT ls) : validT (fenT ls) = true := by
  unfold validT fenT
  rw [List.length_map, decide_eq_true h.1, Bool.true_and, List.all_eq_true]
  intro l hl
  obtain ⟨x, hx, rfl⟩ := List.mem_map.1 hl
  exact fen_thread (h.2 x hx)
/-- Every fence that is done has what stands before it done. -/
def FenI (ls : List (List POp)) (ts : List Pt) : Prop := ∀ (k : Nat) (l : List POp) (t : Pt), ls[k]? = some l → ts[k]? = some t → ∀ (j : Nat), j < l.length → j % 2 = 1 → t.done j = true → ∀ i, i < j → t.done i = true
theorem fen_start (ls : List (List POp)) (n : Nat) : FenI ls (List.replicate n pt0) := fun k l t _ ht j _ _ hd => by
  rw [List.eq_of_mem_replicate (List.mem_of_getElem? ht)] at hd
  cases hd
theorem fenT_get {ls : List (List POp)} {k : Nat} {l : List POp} (h : (fenT ls)[k]? = some l) {i : Nat} {o : POp} (ho : l[i]? = some o) (hi : i % 2 = 1) : o = fence := by
  unfold fenT at h
  rw [List.getElem?_map, Option.map_eq_some_iff] at h
  obtain ⟨x, _, rfl⟩ := h
  obtain ⟨_, rfl⟩ := fen_get ho
  unfold fenAt
  rw [if_pos hi]
theorem free_at {m : Int} {l : List POp} {d : Nat → Bool} {qe : Bool} {i : Nat} {o : POp} (h : canB m l d qe i o = true) {j : Nat} (hj : j < i) : d j = true ∨ ∃ e, l[j]? = some e ∧ m = 3 ∧ passB o e = true := by
  unfold canB at h
  simp only [Bool.and_eq_true] at h
  have hf := h.1.2
  unfold freeB at hf
  have := List.all_eq_true.1 hf j (List.mem_range.2 hj)
  rw [Bool.or_eq_true, Bool.and_eq_true, decide_eq_true_eq] at this
  rcases this with h1 | ⟨h1, h2⟩
  · exact .inl h1
  · cases hl : l[j]? with
    | none => rw [hl] at h2; cases h2
    | some e => rw [hl] at h2; exact .inr ⟨e, rfl, h1, h2⟩
/-- Whatever can be done has all before it done. -/
theorem fen_before {m : Int} {ls : List (List POp)} {ts : List Pt} (hI : FenI (fenT ls) ts) {k : Nat} {l : List POp} {t : Pt} (hl : (fenT ls)[k]? = some l) (ht : ts[k]? = some t) {i : Nat} {o : POp} (ho : l[i]? = some o) {qe : Bool} (hc : canB m l t.done qe i o = true) : ∀ j, j < i → t.done j = true := by
  have hil := (List.getElem?_eq_some_iff.1 ho).1
  have nof : ∀ e, passB fence e = false := fun e => by simp [passB, fence, simpleB]
  have nof2 : ∀ e, passB e fence = false := fun e => by simp [passB, fence, simpleB]
  intro j hj
  by_cases hi : i % 2 = 1
  · have := fenT_get hl ho hi
    subst this
    rcases free_at hc hj with h | ⟨e, _, _, h⟩
    · exact h
    · rw [nof] at h; cases h
  · have hi0 : 0 < i := by omega
    have hf : l[i - 1]? = some fence := by
      have h1 : l[i - 1]? = some (l[i - 1]'(by omega)) := List.getElem?_eq_getElem (by omega)
      rw [h1, fenT_get hl h1 (by omega)]
    have hp : t.done (i - 1) = true := by
      rcases free_at hc (j := i - 1) (by omega) with h | ⟨e, he, _, h⟩
      · exact h
      · rw [hf] at he; injection he with he; subst he; rw [nof2] at h; cases h
    by_cases hj1 : j = i - 1
    · rw [hj1]; exact hp
    · exact hI k l t hl ht (i - 1) (by omega) (by omega) hp j (by omega)
theorem stepOp_done (m : Int) (mem : Nat → Int) (t : Pt) (i : Nat) (o : POp) : (stepOp m mem t i o).2.done = upd t.done i true := by
  unfold stepOp doneT
  split
  · split <;> rfl
  · split
    · rfl
    · split
      · split <;> rfl
      · rfl
theorem fen_stp {m : Int} {ls : List (List POp)} {mem mem' : Nat → Int} {ts ts' : List Pt} {v : Mv} (hI : FenI (fenT ls) ts) (h : Stp m (fenT ls) mem ts v mem' ts') : FenI (fenT ls) ts' := by
  cases h with
  | op k l t i o hl ht ho hc =>
    intro k' l' t' hl' ht' j hj hj2 hd i' hi'
    rw [List.getElem?_set] at ht'
    split at ht'
    · rename_i hk
      subst hk
      split at ht'
      · injection ht' with ht'
        subst ht'
        rw [hl] at hl'
        injection hl' with hl'
        subst hl'
        rw [stepOp_done] at hd ⊢
        unfold upd at hd ⊢
        split
        · rfl
        · split at hd
          · rename_i hji
            exact fen_before hI hl ht ho hc i' (by omega)
          · exact hI k l t hl ht j hj hj2 hd i' hi'
      · cases ht'
    · exact hI k' l' t' hl' ht' j hj hj2 hd i' hi'
  | st k l t i x hl ht hx ha =>
    intro k' l' t' hl' ht' j hj hj2 hd i' hi'
    rw [List.getElem?_set] at ht'
    split at ht'
    · rename_i hk
      subst hk
      split at ht'
      · injection ht' with ht'
        subst ht'
        rw [hl] at hl'
        injection hl' with hl'
        subst hl'
        exact hI k l t hl ht j hj hj2 hd i' hi'
      · cases ht'
    · exact hI k' l' t' hl' ht' j hj hj2 hd i' hi'
end Go.Proofs.Ytnomghcieomjmaa
