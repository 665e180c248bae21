/- What a write keeps, in plain data. -/
import Derived.Test.YtohflngcgmcllaaPlain
namespace Go.Proofs.Ytohflngcgmcllaa

open Classical in
theorem validP_of {l : List PO} (h : validB l = true) : ValidP l := by unfold validB at h; exact of_decide_eq_true h
theorem valid_lt {L : List PO} (h : ValidP L) : ∀ {d i : Nat} {x y : PO}, L[i]? = some x → L[i + d + 1]? = some y → x.id < y.id
  | 0, i, x, y, hx, hy => (h (i + 1) y (by simpa using hy)).2 (by omega) x (by simpa using hx)
  | d + 1, i, x, y, hx, hy => by
    have hlt : i + (d + 1) < L.length := by have := (List.getElem?_eq_some_iff.1 hy).1; omega
    obtain ⟨z, hz⟩ : ∃ z, L[i + d + 1]? = some z := ⟨_, List.getElem?_eq_getElem (by omega)⟩
    have h1 := valid_lt h hx hz
    have h2 : z.id < y.id := (h (i + d + 2) y (by rw [← hy]; congr 1)).2 (by omega) z (by rw [← hz]; congr 1)
    omega
theorem valid_ne {L : List PO} (h : ValidP L) {i j : Nat} {x y : PO} (hij : i < j) (hx : L[i]? = some x) (hy : L[j]? = some y) : x.id < y.id := by
  obtain ⟨d, rfl⟩ : ∃ d, j = i + d + 1 := ⟨j - i - 1, by omega⟩
  exact valid_lt h hx hy
theorem idx_valid {L : List PO} (h : ValidP L) {m : Nat} {x : PO} (hx : L[m]? = some x) : idx x.id L = some m :=
  idx_some hx rfl (fun j y hj hy e => by have := valid_ne h hj hy hx; omega)
theorem valid_same {L : List PO} (h : ValidP L) {m i : Nat} {x y : PO} (hx : L[m]? = some x) (hy : L[i]? = some y) (he : x.id = y.id) : m = i := by
  rcases Nat.lt_trichotomy m i with h1 | h1 | h1
  · have := valid_ne h h1 hx hy; omega
  · exact h1
  · have := valid_ne h h1 hy hx; omega
theorem setl_get (L : List PO) {i k : Nat} {y z : PO} (hi : i < L.length) : (L.set i y)[k]? = some z ↔ (k = i ∧ z = y) ∨ (k ≠ i ∧ L[k]? = some z) := by
  rw [List.getElem?_set]
  by_cases h : i = k
  · subst h
    rw [if_pos rfl, if_pos hi]
    constructor
    · intro e; injection e with e; exact .inl ⟨rfl, e.symm⟩
    · rintro (⟨_, rfl⟩ | ⟨h, _⟩)
      · rfl
      · exact absurd rfl h
  · rw [if_neg h]
    constructor
    · intro e; exact .inr ⟨fun h' => h h'.symm, e⟩
    · rintro (⟨h', _⟩ | ⟨_, e⟩)
      · exact absurd h'.symm h
      · exact e
theorem valid_set {L : List PO} (h : ValidP L) {i : Nat} {x y : PO} (hx : L[i]? = some x) (hy : y.id = x.id) : ValidP (L.set i y) := by
  have hi := (List.getElem?_eq_some_iff.1 hx).1
  intro k z hz
  rcases (setl_get L hi).1 hz with ⟨rfl, rfl⟩ | ⟨hk, hz'⟩
  · refine ⟨by rw [hy]; exact (h k x hx).1, fun h0 u hu => ?_⟩
    rcases (setl_get L hi).1 hu with ⟨h1, _⟩ | ⟨_, hu'⟩
    · omega
    · rw [hy]; exact (h k x hx).2 h0 u hu'
  · refine ⟨(h k z hz').1, fun h0 u hu => ?_⟩
    rcases (setl_get L hi).1 hu with ⟨h1, rfl⟩ | ⟨_, hu'⟩
    · rw [hy]; exact (h k z hz').2 h0 x (by rw [h1]; exact hx)
    · exact (h k z hz').2 h0 u hu'
theorem keep_read {L : List PO} (h : ValidP L) {i j m f : Nat} {x a : PO} {v u : Val} (hx : L[i]? = some x) (hm : L[m]? = some a) (hf : a.s[f]? = some u) :
    readB a.id (f : Int) (L.set i ⟨x.id, x.s.set j v⟩) = true ∧ readD a.id (f : Int) (L.set i ⟨x.id, x.s.set j v⟩) = if m = i ∧ f = j then v else u := by
  have hi := (List.getElem?_eq_some_iff.1 hx).1
  have hv := valid_set h hx (y := ⟨x.id, x.s.set j v⟩) rfl
  by_cases hmi : m = i
  · subst hmi
    rw [hx] at hm; injection hm with hm; subst hm
    have hg : (L.set m ⟨x.id, x.s.set j v⟩)[m]? = some ⟨x.id, x.s.set j v⟩ := (setl_get L hi).2 (.inl ⟨rfl, rfl⟩)
    have hidx : idx x.id (L.set m ⟨x.id, x.s.set j v⟩) = some m := by have := idx_valid hv hg; exact this
    have hfl := (List.getElem?_eq_some_iff.1 hf).1
    by_cases hfj : f = j
    · subst hfj
      rw [if_pos ⟨rfl, rfl⟩]
      exact read_at hidx hg (by simp [hfl])
    · rw [if_neg (by intro h; exact hfj h.2)]
      exact read_at hidx hg (by rw [List.getElem?_set, if_neg (fun h => hfj h.symm)]; exact hf)
  · rw [if_neg (fun h => hmi h.1)]
    have hg : (L.set i ⟨x.id, x.s.set j v⟩)[m]? = some a := (setl_get L hi).2 (.inr ⟨hmi, hm⟩)
    exact read_at (idx_valid hv hg) hg hf
theorem back_same {L : List PO} {i j : Nat} {x : PO} {v u : Val} (hx : L[i]? = some x) (hu : x.s[j]? = some u) : writeO i j u (L.set i ⟨x.id, x.s.set j v⟩) = L := by
  have hi := (List.getElem?_eq_some_iff.1 hx).1
  have hg : (L.set i ⟨x.id, x.s.set j v⟩)[i]? = some ⟨x.id, x.s.set j v⟩ := (setl_get L hi).2 (.inl ⟨rfl, rfl⟩)
  rw [writeO_set hg, List.set_set]
  apply List.ext_getElem?
  intro k
  rw [List.getElem?_set]
  by_cases hk : i = k
  · subst hk
    rw [if_pos rfl, if_pos hi, hx]
    congr 1
    obtain ⟨id, s⟩ := x
    congr 1
    show (s.set j v).set j u = s
    rw [List.set_set]
    apply List.ext_getElem?
    intro q
    rw [List.getElem?_set]
    by_cases hq : j = q
    · subst hq; rw [if_pos rfl, if_pos (List.getElem?_eq_some_iff.1 hu).1]; exact hu.symm
    · rw [if_neg hq]
  · rw [if_neg hk]
end Go.Proofs.Ytohflngcgmcllaa
