/- LedgerAdds: the plain side. -/
import Derived.Test.YtignbncphdemlaaY
namespace Go.Proofs.Ytignbncphdemlaa
open Go.RowKit

/-- The steps in some jobs. -/
def flJ : List Job → Int
  | [] => 0
  | j :: js => sumS j.s + flJ js
theorem flJ_append : ∀ a b : List Job, flJ (a ++ b) = flJ a + flJ b
  | [], b => by simp [flJ]
  | j :: a, b => by have := flJ_append a b; simp only [List.cons_append, flJ, this]; omega
theorem flJ_snoc {js : List Job} {t : Nat} {j : Job} (h : js[t]? = some j) : flJ (js.take (t + 1)) = flJ (js.take t) + sumS j.s := by
  rw [List.take_add_one, h, flJ_append]
  simp [flJ]
theorem sumTo_cntJ {n : Nat} : ∀ {js : List Job}, (∀ j ∈ js, Fine n j.s) → sumTo (cntJ js) n = flJ js
  | [], _ => by
    have : sumTo (cntJ []) n = sumTo (fun _ => 0) n := rfl
    rw [this, sumTo_zero]; rfl
  | j :: js, h => by
    have e : cntJ (j :: js) = fun i : Nat => cnt j.s i + cntJ js i := rfl
    rw [e, sumTo_add, sumTo_cnt (h j (by simp)), sumTo_cntJ (fun k hk => h k (by simp [hk]))]
    rfl
theorem flight_all {n q : Nat} {l : List Acc} {js : List Job} (h : JInv n q l js) : totF l 7 = flJ js := by
  rw [totF_all h.len h.fl, sumTo_cntJ h.fi]
theorem sumS_bnd {q : Nat} {s : List Shr} (h : OkS s) (hq : s.length ≤ 40) : -45035996273704960 ≤ sumS s ∧ sumS s ≤ 45035996273704960 := by
  have := sum_le h s.length
  rw [List.take_of_length_le (Nat.le_refl _)] at this
  omega
theorem flJ_bnd {js : List Job} (h : ∀ j ∈ js, -45035996273704960 ≤ sumS j.s ∧ sumS j.s ≤ 45035996273704960) : ∀ t : Nat, -(45035996273704960 * (t : Int)) ≤ flJ (js.take t) ∧ flJ (js.take t) ≤ 45035996273704960 * (t : Int)
  | 0 => by simp [flJ]
  | t + 1 => by
    have ih := flJ_bnd h t
    cases hj : js[t]? with
    | none =>
      have e : js.take (t + 1) = js.take t := by rw [List.take_add_one, hj]; simp
      rw [e]; omega
    | some j => rw [flJ_snoc hj]; have := h j (List.mem_of_getElem? hj); omega
/-- What each worker did. -/
def Did (l : List Acc) (st : Acc) : Prop := ∀ (i : Nat) (x : Acc), l[i]? = some x → tot x = st i
theorem did_zero (n : Nat) : Did (List.replicate n zero) zero := by
  intro i x hx
  rw [List.getElem?_replicate] at hx
  split at hx
  · injection hx with hx; subst hx; rfl
  · cases hx
theorem Did.move {l : List Acc} {st : Acc} {f : Nat} (h : Did l st) (hf : f < 7) (s : List Shr) : Did (mvAll f s l) st := by
  intro i x hx
  rw [mvAll_get] at hx
  cases hl : l[i]? with
  | none => simp [hl] at hx
  | some y => simp [hl] at hx; subst hx; rw [mv_tot hf]; exact h i y hl
theorem Did.step {l : List Acc} {st : Acc} (h : Did l st) (p : Nat) : Did (stepA l p) (put st p (st p + 1)) := by
  intro i x hx
  rw [stepA, List.getElem?_modify] at hx
  cases hl : l[i]? with
  | none => simp [hl] at hx
  | some y =>
    have := h i y hl
    by_cases hk : p = i
    · simp [hk, hl] at hx
      subst hx
      subst hk
      rw [put_same]
      simp only [tot, put] at *
      simp
      omega
    · simp [hk, hl] at hx
      subst hx
      rw [put_other _ _ _ _ (Ne.symm hk)]
      exact this
theorem Sl.set_pos {α : Type} {w : World} {B sz : Nat} {cells : α → List Value} {A : Option Addr} {n : Nat} {l : List α} (h : Sl w B sz cells A n l) {p : Addr} (hp : 0 < n → ∀ ad, A = some ad → ad.block ≠ p.block) (u : Value) : Sl (w.setCell p u) B sz cells A n l :=
  ⟨h.len, fun hn => by
    obtain ⟨ab, ao, e, hlt, hc⟩ := h.at_ hn
    refine ⟨ab, ao, e, hlt, fun i x hx j u hu => (World.cell?_setCell_other w p _ _ (fun e2 => hp hn _ e (by rw [e2]))).trans (hc i x hx j u hu)⟩⟩
theorem Lx.set {α : Type} {w : World} {d sz n : Nat} {X : Option Nat} {cells : α → List Value} {A : Option Addr} {l : List α} (h : Lx w d X sz cells A n l) {p : Addr} (hp : 0 < n → ∀ ad, A = some ad → ad.block ≠ p.block) (u : Value) : Lx (w.setCell p u) d X sz cells A n l :=
  ⟨by have := h.sl.set_pos hp u; rwa [World.size_setCell], h.hi⟩
/-- No job lies at block b or below. -/
def Above (b : Nat) (js : List Job) : Prop := ∀ j ∈ js, 0 < j.n → ∀ ad, j.A = some ad → b < ad.block
theorem Jobs.set' {w : World} {d n q b : Nat} {X : Option Nat} {js : List Job} (h : Jobs w d X n q js) (ha : Above b js) {p : Addr} (hp : p.block = b) (u : Value) : Jobs (w.setCell p u) d X n q js := fun j hj => ⟨(h j hj).1.set (fun hn ad had => by have := ha j hj hn ad had; omega) u, (h j hj).2⟩
theorem above_sub {b : Nat} {js js' : List Job} (h : Above b js) (hs : ∀ j ∈ js', j ∈ js) : Above b js' := fun j hj => h j (hs j hj)
theorem OkA.le7 {T : Int} {a : Acc} (h : OkA T a) : 0 ≤ a 7 := h.1 7 (by omega)
theorem tot_lost (a : Acc) : a 0 + lostA a + a 7 = tot a := by simp only [tot, lostA]; omega
theorem lost_bnd {T : Int} {a : Acc} (h : OkA T a) : 0 ≤ lostA a ∧ lostA a ≤ T := by
  have := h.2
  have := h.1 0 (by omega)
  have := h.1 1 (by omega)
  have := h.1 2 (by omega)
  have := h.1 3 (by omega)
  have := h.1 4 (by omega)
  have := h.1 5 (by omega)
  have := h.1 6 (by omega)
  have := h.1 7 (by omega)
  simp only [tot, lostA] at *
  omega
end Go.Proofs.Ytignbncphdemlaa
