/- Of threads that all want to change one word, one succeeds: plainly. -/
import Derived.Test.YtnomghcieomjmaaV
namespace Go.Proofs.Ytnomghcieomjmaa
open Go.RowKit

def swl (i : Nat) (f : Bool) : List POp := (if f then [⟨1, 1, 1 + i, 0, 0⟩] else []) ++ [⟨4, 0, 0, 3 + i, 0⟩, ⟨2, 0, 0, 0, 1⟩]
def swT (fs : List Bool) : List (List POp) := fs.mapIdx swl
def swi (f : Bool) : Nat := if f then 1 else 0
structure SwI (fs : List Bool) (mem : Nat → Int) (ts : List Pt) : Prop where
  len : ts.length = fs.length
  q : ∀ t ∈ ts, ∀ x ∈ t.q, x.word = 1
  ord : ∀ (k : Nat) (t : Pt) (f : Bool), ts[k]? = some t → fs[k]? = some f → t.done (swi f + 1) = true → t.done (swi f) = true
  won : (mem 0 = 0 ∧ ∀ (k : Nat) (t : Pt) (f : Bool), ts[k]? = some t → fs[k]? = some f → t.done (swi f) = false ∧ t.regs 0 = 0) ∨
    (∃ (w : Nat) (tw : Pt) (fw : Bool), ts[w]? = some tw ∧ fs[w]? = some fw ∧ mem 0 = 3 + w ∧ tw.done (swi fw) = true ∧ tw.regs 0 = 1 ∧ (∀ (k : Nat) (t : Pt), k ≠ w → ts[k]? = some t → t.regs 0 = 0) ∧ (∀ (k : Nat) (t : Pt) (f : Bool), ts[k]? = some t → fs[k]? = some f → t.done (swi f + 1) = true → t.regs 1 = 3 + w))
theorem sw_at {fs : List Bool} {k : Nat} {l : List POp} (h : (swT fs)[k]? = some l) : ∃ f, fs[k]? = some f ∧ l = swl k f := by
  unfold swT at h
  rw [List.getElem?_mapIdx] at h
  obtain ⟨f, hf, rfl⟩ := Option.map_eq_some_iff.1 h
  exact ⟨f, hf, rfl⟩
/-- Which operation it is. -/
theorem sw_op {k i : Nat} {f : Bool} {o : POp} (h : (swl k f)[i]? = some o) : (f = true ∧ i = 0 ∧ o = ⟨1, 1, 1 + k, 0, 0⟩) ∨ (i = swi f ∧ o = ⟨4, 0, 0, 3 + k, 0⟩) ∨ (i = swi f + 1 ∧ o = ⟨2, 0, 0, 0, 1⟩) := by
  unfold swl at h
  cases f with
  | true =>
    match i, h with
    | 0, h => simp at h; exact .inl ⟨rfl, rfl, h.symm⟩
    | 1, h => simp at h; exact .inr (.inl ⟨rfl, h.symm⟩)
    | 2, h => simp at h; exact .inr (.inr ⟨rfl, h.symm⟩)
    | i + 3, h => simp at h
  | false =>
    match i, h with
    | 0, h => simp at h; exact .inr (.inl ⟨rfl, h.symm⟩)
    | 1, h => simp at h; exact .inr (.inr ⟨rfl, h.symm⟩)
    | i + 2, h => simp at h
theorem loadB_none0 {mem : Nat → Int} {q : List Wt} (h : ∀ x ∈ q, x.word = 1) : loadB mem q 0 = mem 0 := by
  unfold loadB
  rw [List.find?_eq_none.2 (fun x hx => by rw [h x (List.mem_reverse.1 hx)]; decide)]
/-- Another state of one thread that keeps what matters. -/
theorem sw_same {fs : List Bool} {mem mem' : Nat → Int} {ts : List Pt} {k : Nat} {t t' : Pt} {f : Bool} (h : SwI fs mem ts) (ht : ts[k]? = some t) (hf : fs[k]? = some f) (hm : mem' 0 = mem 0) (hq : ∀ x ∈ t'.q, x.word = 1) (hr : t'.regs = t.regs) (hd1 : t'.done (swi f) = t.done (swi f)) (hd2 : t'.done (swi f + 1) = t.done (swi f + 1)) : SwI fs mem' (ts.set k t') := by
  have hkl : k < ts.length := (List.getElem?_eq_some_iff.1 ht).1
  have key : ∀ (j : Nat) (x : Pt), (ts.set k t')[j]? = some x → ∃ y, ts[j]? = some y ∧ x.regs = y.regs ∧ ∀ g, fs[j]? = some g → x.done (swi g) = y.done (swi g) ∧ x.done (swi g + 1) = y.done (swi g + 1) := fun j x hx => by
    rw [List.getElem?_set] at hx
    split at hx
    · rename_i hj
      subst hj
      injection hx with hx
      subst hx
      exact ⟨t, ht, hr, fun g hg => by rw [hf] at hg; injection hg with hg; subst hg; exact ⟨hd1, hd2⟩⟩
    · exact ⟨x, hx, rfl, fun g _ => ⟨rfl, rfl⟩⟩
  refine ⟨by rw [List.length_set]; exact h.len, fun x hx => ?_, fun j x g hx hg hd => ?_, ?_⟩
  · rcases List.mem_or_eq_of_mem_set hx with hx | rfl
    · exact h.q x hx
    · exact hq
  · obtain ⟨y, hy, _, hyd⟩ := key j x hx
    rw [(hyd g hg).1]
    exact h.ord j y g hy hg (by rw [← (hyd g hg).2]; exact hd)
  · rcases h.won with ⟨h0, ha⟩ | ⟨w, tw, fw, hw, hfw, hmw, hdw, hrw, ho, hl⟩
    · refine .inl ⟨by rw [hm]; exact h0, fun j x g hx hg => ?_⟩
      obtain ⟨y, hy, hyr, hyd⟩ := key j x hx
      rw [(hyd g hg).1, hyr]
      exact ha j y g hy hg
    · have hwl : w < (ts.set k t').length := by rw [List.length_set]; exact (List.getElem?_eq_some_iff.1 hw).1
      obtain ⟨x, hx⟩ : ∃ x, (ts.set k t')[w]? = some x := ⟨_, List.getElem?_eq_getElem hwl⟩
      obtain ⟨y, hy, hyr, hyd⟩ := key w x hx
      rw [hw] at hy
      injection hy with hy
      subst hy
      refine .inr ⟨w, x, fw, hx, hfw, by rw [hm]; exact hmw, by rw [(hyd fw hfw).1]; exact hdw, by rw [hyr]; exact hrw, fun j z hj hz => ?_, fun j z g hz hg hd => ?_⟩
      · obtain ⟨y2, hy2, hr2, _⟩ := key j z hz
        rw [hr2]
        exact ho j y2 hj hy2
      · obtain ⟨y2, hy2, hr2, hd2'⟩ := key j z hz
        rw [hr2]
        exact hl j y2 g hy2 hg (by rw [← (hd2' g hg).2]; exact hd)
theorem sw_mk {fs : List Bool} {mem mem' : Nat → Int} {ts : List Pt} {k w : Nat} {t t' : Pt} {f : Bool} (h : SwI fs mem ts) (ht : ts[k]? = some t) (hf : fs[k]? = some f) (hq : ∀ x ∈ t'.q, x.word = 1) (hord : t'.done (swi f + 1) = true → t'.done (swi f) = true) (hm : mem' 0 = 3 + w)
    (hown : (k = w ∧ t'.done (swi f) = true ∧ t'.regs 0 = 1) ∨ (k ≠ w ∧ t'.regs 0 = 0 ∧ ∃ tw fw, ts[w]? = some tw ∧ fs[w]? = some fw ∧ tw.done (swi fw) = true ∧ tw.regs 0 = 1))
    (hoth : ∀ (j : Nat) (x : Pt), j ≠ k → j ≠ w → ts[j]? = some x → x.regs 0 = 0)
    (hld : ∀ (j : Nat) (x : Pt) (g : Bool), j ≠ k → ts[j]? = some x → fs[j]? = some g → x.done (swi g + 1) = true → x.regs 1 = 3 + w) (hld' : t'.done (swi f + 1) = true → t'.regs 1 = 3 + w) : SwI fs mem' (ts.set k t') := by
  have hkl : k < ts.length := (List.getElem?_eq_some_iff.1 ht).1
  have key : ∀ (j : Nat) (x : Pt), (ts.set k t')[j]? = some x → (j = k ∧ x = t') ∨ (j ≠ k ∧ ts[j]? = some x) := fun j x hx => by
    rw [List.getElem?_set] at hx
    split at hx
    · rename_i hj
      subst hj
      injection hx with hx
      exact .inl ⟨rfl, hx.symm⟩
    · rename_i hj
      exact .inr ⟨fun e => hj e.symm, hx⟩
  refine ⟨by rw [List.length_set]; exact h.len, fun x hx => ?_, fun j x g hx hg hd => ?_, ?_⟩
  · rcases List.mem_or_eq_of_mem_set hx with hx | rfl
    · exact h.q x hx
    · exact hq
  · rcases key j x hx with ⟨rfl, rfl⟩ | ⟨hj, hx⟩
    · rw [hf] at hg; injection hg with hg; subst hg; exact hord hd
    · exact h.ord j x g hx hg hd
  · have hl2 : ∀ (j : Nat) (x : Pt) (g : Bool), (ts.set k t')[j]? = some x → fs[j]? = some g → x.done (swi g + 1) = true → x.regs 1 = 3 + w := fun j x g hx hg hd => by
      rcases key j x hx with ⟨rfl, rfl⟩ | ⟨hj, hx⟩
      · rw [hf] at hg; injection hg with hg; subst hg; exact hld' hd
      · exact hld j x g hj hx hg hd
    rcases hown with ⟨rfl, h1, h2⟩ | ⟨hne, h1, tw, fw, hw, hfw, h2, h3⟩
    · refine .inr ⟨k, t', f, by rw [List.getElem?_set_self hkl], hf, hm, h1, h2, fun j x hj hx => ?_, hl2⟩
      rcases key j x hx with ⟨rfl, _⟩ | ⟨_, hx⟩
      · exact absurd rfl hj
      · exact hoth j x hj hj hx
    · refine .inr ⟨w, tw, fw, by rw [List.getElem?_set_ne hne]; exact hw, hfw, hm, h2, h3, fun j x hj hx => ?_, hl2⟩
      rcases key j x hx with ⟨_, rfl⟩ | ⟨hjk, hx⟩
      · exact h1
      · exact hoth j x hjk hj hx
theorem upd_ne {β : Type} (f : Nat → β) {i j : Nat} (v : β) (h : j ≠ i) : upd f i v j = f j := by simp [upd, h]

theorem step_store (m : Int) (mem : Nat → Int) (t : Pt) (i : Nat) (n : Int) : stepOp m mem t i ⟨1, 1, n, 0, 0⟩ = if queuesB m then (mem, ⟨upd t.done i true, t.regs, t.q ++ [⟨1, n⟩]⟩) else (upd mem 1 n, ⟨upd t.done i true, t.regs, t.q⟩) := by simp [stepOp, doneT]
theorem step_swap (m : Int) (mem : Nat → Int) (t : Pt) (i : Nat) (n : Int) : stepOp m mem t i ⟨4, 0, 0, n, 0⟩ = if mem 0 = 0 then (upd mem 0 n, ⟨upd t.done i true, upd t.regs 0 1, t.q⟩) else (mem, ⟨upd t.done i true, upd t.regs 0 0, t.q⟩) := by simp [stepOp]
theorem step_load (m : Int) (mem : Nat → Int) (t : Pt) (i : Nat) : stepOp m mem t i ⟨2, 0, 0, 0, 1⟩ = (mem, ⟨upd t.done i true, upd t.regs 1 (loadB mem t.q 0), t.q⟩) := by simp [stepOp]
/-- Each step keeps it. -/
theorem sw_stp {m : Int} {fs : List Bool} {mem mem' : Nat → Int} {ts ts' : List Pt} {v : Mv} (h : SwI fs mem ts) (hs : Stp m (swT fs) mem ts v mem' ts') : SwI fs mem' ts' := by
  cases hs with
  | st k l t i x hl ht hx ha =>
    obtain ⟨f, hf, rfl⟩ := sw_at hl
    have hw := h.q t (List.mem_of_getElem? ht) x (List.mem_of_getElem? hx)
    refine sw_same h ht hf ?_ (fun y hy => h.q t (List.mem_of_getElem? ht) y (List.mem_of_mem_eraseIdx hy)) rfl rfl rfl
    unfold stepSt
    rw [hw]
    exact upd_ne mem (i := 1) (j := 0) x.n (by decide)
  | op k l t i o hl ht ho hc =>
    obtain ⟨f, hf, rfl⟩ := sw_at hl
    have hd := can_done hc
    have hqt := h.q t (List.mem_of_getElem? ht)
    rcases sw_op ho with ⟨rfl, rfl, rfl⟩ | ⟨rfl, rfl⟩ | ⟨rfl, rfl⟩
    · rw [step_store]
      split
      · refine sw_same h ht hf rfl (fun x hx => ?_) rfl (upd_ne t.done (i := 0) (j := 1) true (by decide)) (upd_ne t.done (i := 0) (j := 2) true (by decide))
        rcases List.mem_append.1 hx with hx | hx
        · exact hqt x hx
        · simp at hx; subst hx; rfl
      · exact sw_same h ht hf (upd_ne mem (i := 1) (j := 0) (1 + (k : Int)) (by decide)) hqt rfl (upd_ne t.done (i := 0) (j := 1) true (by decide)) (upd_ne t.done (i := 0) (j := 2) true (by decide))
    · rw [step_swap]
      by_cases h0 : mem 0 = 0
      · rw [if_pos h0]
        rcases h.won with ⟨_, ha⟩ | ⟨w, tw, fw, _, _, hmw, _⟩
        · refine sw_mk (w := k) h ht hf hqt (fun _ => upd_same t.done _ _) (upd_same mem 0 _) (.inl ⟨rfl, upd_same t.done _ _, upd_same t.regs 0 1⟩) (fun j x hj _ hx => ?_) (fun j x g hj hx hg hdl => ?_) (fun hdl => ?_)
          · have hjl : j < fs.length := by rw [← h.len]; exact (List.getElem?_eq_some_iff.1 hx).1
            exact (ha j x fs[j] hx (List.getElem?_eq_getElem hjl)).2
          · have h1 := h.ord j x g hx hg hdl
            rw [(ha j x g hx hg).1] at h1
            cases h1
          · have hdl : upd t.done (swi f) true (swi f + 1) = true := hdl
            rw [upd_ne _ _ (by omega)] at hdl
            have h1 := h.ord k t f ht hf hdl
            rw [hd] at h1
            cases h1
        · rw [h0] at hmw; omega
      · rw [if_neg h0]
        rcases h.won with ⟨h1, _⟩ | ⟨w, tw, fw, hw, hfw, hmw, hdw, hrw, ho2, hl2⟩
        · exact absurd h1 h0
        · have hkw : k ≠ w := fun e => by
            subst e
            rw [ht] at hw
            rw [hf] at hfw
            injection hw with hw
            injection hfw with hfw
            subst hw hfw
            rw [hd] at hdw
            cases hdw
          exact sw_mk (w := w) h ht hf hqt (fun _ => upd_same t.done _ _) hmw (.inr ⟨hkw, upd_same t.regs 0 0, tw, fw, hw, hfw, hdw, hrw⟩) (fun j x _ hj hx => ho2 j x hj hx) (fun j x g _ hx hg hdl => hl2 j x g hx hg hdl) (fun hdl => by
            have hdl : upd t.done (swi f) true (swi f + 1) = true := hdl
            rw [upd_ne _ _ (by omega)] at hdl
            show upd t.regs 0 0 1 = 3 + w
            rw [upd_ne t.regs (i := 0) (j := 1) 0 (by decide)]
            exact hl2 k t f ht hf hdl)
    · have hds : t.done (swi f) = true := by
        unfold canB at hc
        simp only [Bool.and_eq_true] at hc
        have hfr := hc.1.2
        unfold freeB at hfr
        have := List.all_eq_true.1 hfr (swi f) (List.mem_range.2 (by omega))
        have he : (swl k f)[swi f]? = some ⟨4, 0, 0, 3 + k, 0⟩ := by cases f <;> rfl
        rw [he] at this
        simpa [passB, simpleB] using this
      rw [step_load]
      rcases h.won with ⟨_, ha⟩ | ⟨w, tw, fw, hw, hfw, hmw, hdw, hrw, ho2, hl2⟩
      · rw [(ha k t f ht hf).1] at hds
        cases hds
      · refine sw_mk (w := w) h ht hf hqt (fun _ => ?_) hmw ?_ (fun j x _ hj hx => ho2 j x hj hx) (fun j x g _ hx hg hdl => hl2 j x g hx hg hdl) (fun _ => ?_)
        · show upd t.done (swi f + 1) true (swi f) = true
          rw [upd_ne _ _ (by omega)]
          exact hds
        · by_cases hkw : k = w
          · subst hkw
            rw [ht] at hw
            injection hw with hw
            subst hw
            exact .inl ⟨rfl, by show upd t.done (swi f + 1) true (swi f) = true; rw [upd_ne _ _ (by omega)]; exact hds, (upd_ne t.regs (i := 1) (j := 0) (loadB mem t.q 0) (by decide)).trans hrw⟩
          · exact .inr ⟨hkw, (upd_ne t.regs (i := 1) (j := 0) (loadB mem t.q 0) (by decide)).trans (ho2 k t hkw ht), tw, fw, hw, hfw, hdw, hrw⟩
        · show upd t.regs 1 (loadB mem t.q 0) 1 = 3 + w
          rw [upd_same, loadB_none0 hqt]
          exact hmw

theorem sw_valid (fs : List Bool) (h : fs.length = 2 ∨ fs.length = 3) : validT (swT fs) = true := by
  match fs, h with
  | [a, b], _ => cases a <;> cases b <;> rfl
  | [a, b, c], _ => cases a <;> cases b <;> cases c <;> rfl
  | [], h => simp at h
  | [_], h => simp at h
  | _ :: _ :: _ :: _ :: _, h => simp at h
theorem sw_start (fs : List Bool) (mem : Nat → Int) (hm : mem 0 = 0) : SwI fs mem (List.replicate fs.length ⟨fun _ => false, fun _ => 0, []⟩) := by
  have hr : ∀ (k : Nat) (t : Pt), (List.replicate fs.length (⟨fun _ => false, fun _ => 0, []⟩ : Pt))[k]? = some t → t = ⟨fun _ => false, fun _ => 0, []⟩ := fun k t h => List.eq_of_mem_replicate (List.mem_of_getElem? h)
  refine ⟨List.length_replicate .., fun t ht x hx => ?_, fun k t f ht hf hd => ?_, .inl ⟨hm, fun k t f ht hf => ?_⟩⟩
  · rw [List.eq_of_mem_replicate ht] at hx
    cases hx
  · rw [hr k t ht] at hd
    cases hd
  · rw [hr k t ht]
    exact ⟨rfl, rfl⟩
/-- At the end one has won. -/
theorem sw_end {fs : List Bool} {mem : Nat → Int} {ts : List Pt} (h : SwI fs mem ts) (he : endedP (swT fs) ts = true) (hn : 0 < fs.length) : ∃ w, w < fs.length ∧ mem 0 = 3 + w ∧ ∀ (k : Nat) (t : Pt), ts[k]? = some t → t.regs 0 = (if k = w then 1 else 0) ∧ t.regs 1 = 3 + w := by
  have hl : (swT fs).length = fs.length := by simp [swT]
  have hdone : ∀ (k : Nat) (t : Pt) (f : Bool), ts[k]? = some t → fs[k]? = some f → t.done (swi f) = true ∧ t.done (swi f + 1) = true := fun k t f ht hf => by
    have hs : (swT fs)[k]? = some (swl k f) := by unfold swT; rw [List.getElem?_mapIdx, hf]; rfl
    cases hE : endT (swl k f) t with
    | false => rw [ended_not hs ht hE] at he; cases he
    | true =>
      unfold endT at hE
      simp only [Bool.and_eq_true, List.all_eq_true, List.mem_range] at hE
      have hlen : (swl k f).length = swi f + 2 := by cases f <;> rfl
      exact ⟨hE.2 _ (by omega), hE.2 _ (by omega)⟩
  have hfs : ∀ (k : Nat) (t : Pt), ts[k]? = some t → ∃ f, fs[k]? = some f := fun k t ht => ⟨_, List.getElem?_eq_getElem (by rw [← h.len]; exact (List.getElem?_eq_some_iff.1 ht).1)⟩
  rcases h.won with ⟨_, ha⟩ | ⟨w, tw, fw, hw, hfw, hmw, hdw, hrw, ho, hl2⟩
  · have h0 : ts[0]? = some (ts[0]'(by rw [h.len]; exact hn)) := List.getElem?_eq_getElem (by rw [h.len]; exact hn)
    obtain ⟨f, hf⟩ := hfs 0 _ h0
    have h1 := (ha 0 _ f h0 hf).1
    rw [(hdone 0 _ f h0 hf).1] at h1
    cases h1
  · refine ⟨w, (List.getElem?_eq_some_iff.1 hfw).1, hmw, fun k t ht => ?_⟩
    obtain ⟨f, hf⟩ := hfs k t ht
    refine ⟨?_, hl2 k t f ht hf (hdone k t f ht hf).2⟩
    by_cases hk : k = w
    · subst hk
      rw [if_pos rfl]
      rw [hw] at ht
      injection ht with ht
      subst ht
      exact hrw
    · rw [if_neg hk]
      exact ho k t hk ht
end Go.Proofs.Ytnomghcieomjmaa
