/- The arguments of the laws of heaps: values, objects, heaps. -/
import Derived.Test.YtohflngcgmcllaaA
import Derived.Test.YtohflngcgmcllaaOpen
namespace Go.Proofs.Ytohflngcgmcllaa
open Go.ChangeShapes Go.WideShapes Go.ChangeAt Go.RowKit Go.Deep
section
variable {H : Type} {enc : TypeId × Value → H} {W : World}
theorem bytesV : Try.prog.bytesOf 29 = 16 := by kernel_rfl
theorem bytesO : Try.prog.bytesOf 27 = 32 := by kernel_rfl
theorem el_val : ∀ n cs (y : DataW H × List MemPlace), cs.length = 2 → DataW.trod enc Try.prog W 0 (fun _ => true) true n 29 cs = some y → SmallD Try.prog 29 y.1 → ∃ x : Val, cs = x.cells ∧ (-9223372036854775808 ≤ x.n ∧ x.n ≤ 9223372036854775807) := by
  intro n cs y hl h hsm
  have hf := trod_fields2 Try.underlying29 (by kernel_rfl) hl h hsm
  obtain ⟨v0, y0, n0, h0, t0, -⟩ := hf 0 _ rfl
  obtain ⟨v1, y1, n1, h1, t1, -⟩ := hf 1 _ rfl
  obtain ⟨b, e0, _⟩ := DataW.trod_bool Try.underlying4 t0
  obtain ⟨z, e1, _, hw⟩ := DataW.trod_int Try.underlying2 t1
  simp at e0 e1
  subst e0 e1
  refine ⟨⟨b, z⟩, ?_, wf_i64 hw⟩
  match cs, hl, h0, h1 with
  | [a, c], _, h0, h1 => simp at h0 h1; subst h0 h1; rfl
/-- What is known of an object that came in. -/
def OkOb (W : World) (x : Ob) : Prop := Sl W W.heap.size 2 Val.cells x.A x.n x.s ∧ x.n ≤ 8796093021952 ∧ x.n ≤ x.c ∧ x.c ≤ 9223372036854775807 ∧ -9223372036854775808 ≤ x.id ∧ x.id ≤ 9223372036854775807
theorem el_obj : ∀ n cs (y : DataW H × List MemPlace), cs.length = 2 → DataW.trod enc Try.prog W 0 (fun _ => true) true n 27 cs = some y → SmallD Try.prog 27 y.1 → ∃ x : Ob, cs = x.cells ∧ OkOb W x := by
  intro n cs y hl h hsm
  have hf := trod_fields2 Try.underlying27 (by kernel_rfl) hl h hsm
  obtain ⟨v0, y0, n0, h0, t0, -⟩ := hf 0 _ rfl
  obtain ⟨v1, y1, n1, h1, t1, hs1⟩ := hf 1 _ rfl
  obtain ⟨z, e0, _, hw⟩ := DataW.trod_int Try.underlying2 t0
  obtain ⟨A, m, c, s, e1, hmc, hc, hw1, _, hsl, _⟩ := open_sl2 Try.underlying25 (by kernel_rfl) (by decide) t1 hs1 el_val
  simp at e0 e1
  subst e0 e1
  rw [bytesV] at hw1
  refine ⟨⟨z, A, m, c, s⟩, ?_, hsl, by show m ≤ _; omega, hmc, hc, (wf_i64 hw).1, (wf_i64 hw).2⟩
  match cs, hl, h0, h1 with
  | [a, d], _, h0, h1 => simp at h0 h1; subst h0 h1; rfl
/-- A list of objects that came in. -/
structure OkHp (W : World) (A : Option Addr) (n c : Nat) (l : List Ob) : Prop where
  hp : Hp W W.heap.size A n l
  few : n ≤ 4398046510976
  cap : n ≤ c
  nul : A = none → c = 0
  ids : ∀ o ∈ l, -9223372036854775808 ≤ o.id ∧ o.id ≤ 9223372036854775807
theorem open_objs {fuel : Nat} {cs : List Value} {y : DataW H × List MemPlace} (h : DataW.trod enc Try.prog W 0 (fun _ => true) true fuel 22 cs = some y) (hsm : SmallD Try.prog 22 y.1) :
    ∃ A n c l, cs = [.slice A n c] ∧ c ≤ 9223372036854775807 ∧ OkHp W A n c l := by
  obtain ⟨A, n, c, l, rfl, hnc, hc, hw, hnul, hsl, hok⟩ := open_sl2 Try.underlying22 (by kernel_rfl) (by decide) h hsm el_obj
  rw [bytesO] at hw
  exact ⟨A, n, c, l, rfl, hc, ⟨hsl, fun o ho => ⟨(hok o ho).1, (hok o ho).2.1⟩⟩, by omega, hnc, hnul, fun o ho => ⟨(hok o ho).2.2.2.2.1, (hok o ho).2.2.2.2.2⟩⟩
theorem open_heap {fuel : Nat} {cs : List Value} {y : DataW H × List MemPlace} (hl : cs.length = 1) (h : DataW.trod enc Try.prog W 0 (fun _ => true) true fuel 24 cs = some y) (hsm : SmallD Try.prog 24 y.1) :
    ∃ A n c l, cs = [.slice A n c] ∧ c ≤ 9223372036854775807 ∧ OkHp W A n c l := by
  have hf := trod_fields2 Try.underlying24 (by kernel_rfl) hl h hsm
  obtain ⟨v0, y0, n0, h0, t0, hs0⟩ := hf 0 _ rfl
  obtain ⟨A, n, c, l, e, hc, hok⟩ := open_objs t0 hs0
  simp at e
  subst e
  refine ⟨A, n, c, l, ?_, hc, hok⟩
  match cs, hl, h0 with
  | [a], _, h0 => simp at h0; subst h0; rfl
end
end Go.Proofs.Ytohflngcgmcllaa
