/- LedgerParts: the plain side. -/
import Derived.Test.YtignbncphdemlaaN
import Derived.Test.YtignbncphdemlaaP
namespace Go.Proofs.Ytignbncphdemlaa
open Go.RowKit

def Small (q : Int) (s : List Shr) : Prop := ∀ (i : Nat) (x : Shr), s[i]? = some x → x.steps ≤ q
theorem addS_small {q : Int} {s : List Shr} {k : Int} (h : Small q s) (hq : 0 ≤ q) : Small (q + 1) (addS s k) := by
  rcases addS_cases s k with ⟨p, x, hx, hw, he⟩ | ⟨p, hp, he⟩
  · rw [he]
    intro i y hy
    rw [List.getElem?_modify] at hy
    cases hs : s[i]? with
    | none => simp [hs] at hy
    | some z =>
      have := h i z hs
      by_cases hpi : p = i
      · simp [hpi, hs] at hy; subst hy; simp; omega
      · simp [hpi, hs] at hy; subst hy; omega
  · rw [he]
    intro i y hy
    have hm : y ∈ s.take p ++ ([⟨k, 1⟩] ++ s.drop p) := List.mem_of_getElem? hy
    have hcase : y ∈ s ∨ y = ⟨k, 1⟩ := by
      rcases List.mem_append.1 hm with h1 | h1
      · exact .inl (List.mem_of_mem_take h1)
      · rcases List.mem_append.1 h1 with h2 | h2
        · exact .inr (by simpa using h2)
        · exact .inl (List.mem_of_mem_drop h2)
    rcases hcase with h1 | rfl
    · obtain ⟨j, hj⟩ := List.getElem?_of_mem h1
      have := h j y hj
      omega
    · simp; omega
theorem okS_of {n : Nat} {q : Int} {s : List Shr} (h : Fine n s) (hs : Small q s) (hq : q ≤ 1000000) : OkS s := fun i x hx => by have := h i x hx; have := hs i x hx; omega
theorem Small.mono {q q' : Int} {s : List Shr} (h : Small q s) (hq : q ≤ q') : Small q' s := fun i x hx => by have := h i x hx; omega

/-- What the loop of LedgerParts keeps: q steps were made, each is in a or in b. -/
structure Inv (n q : Nat) (l : List Acc) (a b : List Shr) : Prop where
  len : l.length = n
  fl : ∀ (i : Nat) (x : Acc), l[i]? = some x → x 7 = cnt a i + cnt b i ∧ ∀ j, j < 7 → x j = 0
  fa : Fine n a
  fb : Fine n b
  la : a.length ≤ q
  lb : b.length ≤ q
  sa : Small q a
  sb : Small q b
  ok : Ok q l
theorem inv_zero (n : Nat) : Inv n 0 (List.replicate n zero) [] [] := by
  refine ⟨List.length_replicate .., fun i x hx => ?_, Fine.nil, Fine.nil, Nat.le_refl _, Nat.le_refl _, fun i x h => by simp at h, fun i x h => by simp at h, zero_ok n⟩
  rw [List.getElem?_replicate] at hx
  split at hx
  · injection hx with hx; subst hx; exact ⟨rfl, fun j _ => rfl⟩
  · cases hx
theorem fl_step {n : Nat} {l : List Acc} {g : Nat → Int} {k : Nat} (h : ∀ (i : Nat) (x : Acc), l[i]? = some x → x 7 = g i ∧ ∀ j, j < 7 → x j = 0) : ∀ (i : Nat) (x : Acc), (stepA l k)[i]? = some x → x 7 = g i + (if k = i then 1 else 0) ∧ ∀ j, j < 7 → x j = 0 := by
  intro i x hx
  rw [stepA, List.getElem?_modify] at hx
  cases hl : l[i]? with
  | none => simp [hl] at hx
  | some y =>
    have := h i y hl
    by_cases hk : k = i
    · simp [hk, hl] at hx
      subst hx
      refine ⟨by rw [put_same, if_pos hk]; omega, fun j hj => by rw [put_other _ _ _ _ (by omega)]; exact this.2 j hj⟩
    · simp [hk, hl] at hx
      subst hx
      exact ⟨by rw [if_neg hk]; omega, this.2⟩
theorem Inv.a {n q : Nat} {l : List Acc} {a b : List Shr} (h : Inv n q l a b) {k : Nat} (hk : k < n) : Inv n (q + 1) (stepA l k) (addS a k) b := by
  refine ⟨(step_len l k).trans h.len, fun i x hx => ?_, addS_fine h.fa hk, h.fb, by have := addS_len a k; have := h.la; omega, by have := h.lb; omega, ?_, ?_, ?_⟩
  · obtain ⟨h1, h2⟩ := fl_step (n := n) h.fl i x hx
    exact ⟨by rw [h1, addS_cnt]; omega, h2⟩
  · have := addS_small (k := (k : Int)) h.sa (by omega); rwa [Int.natCast_succ]
  · exact h.sb.mono (by omega)
  · have := step_ok h.ok k; rwa [Int.natCast_succ]
theorem Inv.b {n q : Nat} {l : List Acc} {a b : List Shr} (h : Inv n q l a b) {k : Nat} (hk : k < n) : Inv n (q + 1) (stepA l k) a (addS b k) := by
  refine ⟨(step_len l k).trans h.len, fun i x hx => ?_, h.fa, addS_fine h.fb hk, by have := h.la; omega, by have := addS_len b k; have := h.lb; omega, ?_, ?_, ?_⟩
  · obtain ⟨h1, h2⟩ := fl_step (n := n) h.fl i x hx
    exact ⟨by rw [h1, addS_cnt]; omega, h2⟩
  · exact h.sa.mono (by omega)
  · have := addS_small (k := (k : Int)) h.sb (by omega); rwa [Int.natCast_succ]
  · have := step_ok h.ok k; rwa [Int.natCast_succ]
theorem mvAll_ok {f : Nat} (hf : f < 7) {T : Int} {s : List Shr} {l : List Acc} (h : Fine l.length s) (hle : ∀ (i : Nat) (a : Acc), l[i]? = some a → cnt s i ≤ a 7) (hok : Ok T l) : Ok T (mvAll f s l) := (moveL_inv hf (moveL_all hf h hle) hok).2
/-- All that LedgerParts finds. -/
structure Parts (n : Nat) (c : Nat) (l : List Acc) (a b : List Shr) : Prop where
  x : moveE 0 l a = (mvAll 0 a l, 0)
  y : moveE (1 + c) (mvAll 0 a l) b = (mvAll (1 + c) b (mvAll 0 a l), 0)
  z : moveE (1 + c) l b = (mvAll (1 + c) b l, 0)
  w : moveE 0 (mvAll (1 + c) b l) a = (mvAll (1 + c) b (mvAll 0 a l), 0)
  both : moveE 0 l (a ++ b) = (mvAll 0 (a ++ b) l, 0)
  p : moveE 0 l b = (mvAll 0 b l, 0)
  q : moveE 0 (mvAll 0 b l) a = (mvAll 0 (a ++ b) l, 0)
  okx : Ok 1000000 (mvAll 0 a l)
  okz : Ok 1000000 (mvAll (1 + c) b l)
  okp : Ok 1000000 (mvAll 0 b l)
  oky : Ok 1000000 (mvAll (1 + c) b (mvAll 0 a l))
  t0 : totF (mvAll (1 + c) b (mvAll 0 a l)) 0 = sumS a
  t1 : totF (mvAll (1 + c) b (mvAll 0 a l)) (1 + c) = sumS b
  t7 : totF (mvAll (1 + c) b (mvAll 0 a l)) 7 = 0
theorem fine_append {n : Nat} {s t : List Shr} (h : Fine n s) (h' : Fine n t) : Fine n (s ++ t) := by
  intro i x hx
  rcases List.mem_append.1 (List.mem_of_getElem? hx) with h1 | h1
  · obtain ⟨j, hj⟩ := List.getElem?_of_mem h1; exact h j x hj
  · obtain ⟨j, hj⟩ := List.getElem?_of_mem h1; exact h' j x hj
theorem sumTo_zero : ∀ n, sumTo (fun _ => 0) n = 0
  | 0 => rfl
  | n + 1 => by simp [sumTo, sumTo_zero n]
theorem totF_all {n : Nat} {l : List Acc} {j : Nat} {g : Nat → Int} (hl : l.length = n) (h : ∀ (i : Nat) (a : Acc), l[i]? = some a → a j = g i) : totF l j = sumTo g n := by
  have h1 := totF_sum l j n (by omega)
  rw [List.take_of_length_le (by omega)] at h1
  rw [h1]
  refine sumTo_congr n fun i hi => ?_
  obtain ⟨a, ha⟩ : ∃ a, l[i]? = some a := ⟨_, List.getElem?_eq_getElem (by omega)⟩
  simp only [ha]
  exact h i a ha
theorem mv_at7 {f : Nat} (hf : f < 7) (k : Int) (a : Acc) : mv1 f k a 7 = a 7 - k := by
  rw [mv1, put_other _ _ _ _ (by omega), put_same]
theorem Inv.parts {n q c : Nat} {l : List Acc} {a b : List Shr} (h : Inv n q l a b) (hq : q ≤ 1000000) (hc : c < 6) : Parts n c l a b := by
  have c1 : 1 + c < 7 := by omega
  have hok : Ok 1000000 l := h.ok.le (by omega)
  have ca := cnt_nonneg h.fa
  have cb := cnt_nonneg h.fb
  have fa : Fine l.length a := by rw [h.len]; exact h.fa
  have fb : Fine l.length b := by rw [h.len]; exact h.fb
  have la : ∀ (i : Nat) (x : Acc), l[i]? = some x → cnt a i ≤ x 7 := fun i x hx => by have := h.fl i x hx; have := cb i; omega
  have lb : ∀ (i : Nat) (x : Acc), l[i]? = some x → cnt b i ≤ x 7 := fun i x hx => by have := h.fl i x hx; have := ca i; omega
  have after : ∀ {f : Nat} (_ : f < 7) (s t : List Shr) (i : Nat) (x : Acc), (∀ (i : Nat) (x : Acc), l[i]? = some x → cnt s i + cnt t i ≤ x 7) → (mvAll f s l)[i]? = some x → cnt t i ≤ x 7 := by
    intro f hf s t i x hst hx
    rw [mvAll_get] at hx
    cases hl : l[i]? with
    | none => simp [hl] at hx
    | some y =>
      simp [hl] at hx
      subst hx
      rw [mv_at7 hf]
      have := hst i y hl
      omega
  have hab : ∀ (i : Nat) (x : Acc), l[i]? = some x → cnt a i + cnt b i ≤ x 7 := fun i x hx => by have := h.fl i x hx; omega
  have hba : ∀ (i : Nat) (x : Acc), l[i]? = some x → cnt b i + cnt a i ≤ x 7 := fun i x hx => by have := h.fl i x hx; omega
  have fbx : Fine (mvAll 0 a l).length b := by rw [mvAll_len]; exact fb
  have faz : Fine (mvAll (1 + c) b l).length a := by rw [mvAll_len]; exact fa
  have fap : Fine (mvAll 0 b l).length a := by rw [mvAll_len]; exact fa
  have lbx : ∀ (i : Nat) (x : Acc), (mvAll 0 a l)[i]? = some x → cnt b i ≤ x 7 := fun i x hx => after (by omega) a b i x hab hx
  have laz : ∀ (i : Nat) (x : Acc), (mvAll (1 + c) b l)[i]? = some x → cnt a i ≤ x 7 := fun i x hx => after c1 b a i x hba hx
  have lap : ∀ (i : Nat) (x : Acc), (mvAll 0 b l)[i]? = some x → cnt a i ≤ x 7 := fun i x hx => after (by omega) b a i x hba hx
  have okx := mvAll_ok (f := 0) (by omega) fa la hok
  have get : ∀ (i : Nat) (x : Acc), (mvAll (1 + c) b (mvAll 0 a l))[i]? = some x → x 0 = cnt a i ∧ x (1 + c) = cnt b i ∧ x 7 = 0 := by
    intro i x hx
    rw [mvAll_get, mvAll_get] at hx
    cases hl : l[i]? with
    | none => simp [hl] at hx
    | some y =>
      simp [hl] at hx
      subst hx
      obtain ⟨h7, h0⟩ := h.fl i y hl
      have e0 := h0 0 (by omega)
      have e1 := h0 (1 + c) c1
      refine ⟨?_, ?_, ?_⟩
      · rw [mv1, put_other _ _ _ _ (by omega), put_other _ _ _ _ (by omega), mv1, put_same, e0]; omega
      · have : mv1 0 (cnt a i) y (1 + c) = y (1 + c) := by rw [mv1, put_other _ _ _ _ (by omega), put_other _ _ _ _ (by omega)]
        rw [mv1, put_same, this, e1]; omega
      · rw [mv_at7 c1, mv_at7 (by omega)]; omega
  have hlen : (mvAll (1 + c) b (mvAll 0 a l)).length = n := by rw [mvAll_len, mvAll_len]; exact h.len
  exact {
    x := moveE_all (by omega) fa la
    y := moveE_all c1 fbx lbx
    z := moveE_all c1 fb lb
    w := by rw [moveE_all (by omega) faz laz, mvAll_swap (by omega) c1 (by omega)]
    both := moveE_all (by omega) (fine_append fa fb) (fun i x hx => by rw [cnt_append]; exact hab i x hx)
    p := moveE_all (by omega) fb lb
    q := by rw [moveE_all (by omega) fap lap, ← mvAll_append (by omega)]
    okx := okx
    okz := mvAll_ok c1 fb lb hok
    okp := mvAll_ok (by omega) fb lb hok
    oky := mvAll_ok c1 fbx lbx okx
    t0 := by rw [totF_all hlen (fun i x hx => (get i x hx).1), sumTo_cnt h.fa]
    t1 := by rw [totF_all hlen (fun i x hx => (get i x hx).2.1), sumTo_cnt h.fb]
    t7 := by rw [totF_all hlen (g := fun _ => 0) (fun i x hx => (get i x hx).2.2), sumTo_zero] }
end Go.Proofs.Ytignbncphdemlaa
