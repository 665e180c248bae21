/- speculatelaw03.HeapDoes holds: whatever the input, it returns true and leaves its arguments as they were. No condition. -/
import Derived.Test.YtohflngcgmcllaaQ
import Derived.Test.YtohflngcgmcllaaEl
import Derived.Lib.SmallJoins
namespace Go.Proofs.Ytohflngcgmcllaa
open Go.ChangeShapes Go.WideShapes Go.ChangeAt Go.RowKit Go.Deep

theorem read_heapDoes : ∀ t ∈ Try.f3.params.toList, Try.prog.readableRec t = true ∧ t < Try.prog.types.size := by
  have h : (Try.f3.params.toList.all fun t => Try.prog.readableRec t && decide (t < Try.prog.types.size)) = true := by kernel_rfl
  intro t ht
  have := List.all_eq_true.1 h t ht
  simpa using this

set_option maxRecDepth 100000 in
theorem heapDoes_lifted (os : Os) (started : os.Started) (H : Type) (enc : TypeId × Value → H) :
    ReturnsInHanded {} Try.checked os 3 .any (Rows.heapDoesSpec.pre6 enc Try.prog Try.f3 Rows.heapDoesRow.domain false) (Rows.heapDoesSpec.post enc Try.prog Try.f3 false true false false) := by
  refine returnsInHanded_of_change_sized (C := Try.checked) Try.own started (by kernel_rfl) Try.func3
    (ChangeSpec.witness6 (enc := enc) (C := Try.checked) false ⟨#[], #[.agg #[.slice none 0 0], .agg #[.int .i64 0, .slice none 0 0], .int .i64 0, .int .i64 0, .agg #[.bool false, .int .i64 0], .int .u8 0], []⟩ 8 (by kernel_rfl) (by kernel_rfl) (by kernel_rfl) (by kernel_rfl)) ?_
  intro W base args ds gs before hval0 hW _ hwt _
  have hval : ∀ (j : Nat) t v, Try.f3.params[j]? = some t → args[j]? = some v → Value.okWide Try.prog W .any base t v := hval0
  have hsm : ∀ (j : Nat) t d, (Try.f3.params.toList ++ Rows.heapDoesSpec.plain.varTypes Try.prog)[j]? = some t → (ds ++ gs)[j]? = some d → SmallD Try.prog t d := fun j t d ht hd => small_args hwt ht hd
  have hW' := hW
  obtain ⟨p, q, hA0, hV, rfl, _, _⟩ := hW
  have hA : DataW.TrodAll enc Try.prog W 0 (fun _ => true) true Try.f3.params.toList args.toList ds p := hA0
  rw [Try.params3] at hA hval hsm
  obtain ⟨v0, vs0, d0, ds0, p0, q0, hargs, rfl, rfl, h0, r0⟩ := trodAll_cons hA
  obtain ⟨v1, vs1, d1, ds1, p1, q1, rfl, rfl, rfl, h1, r1⟩ := trodAll_cons r0
  obtain ⟨v2, vs2, d2, ds2, p2, q2, rfl, rfl, rfl, h2, r2⟩ := trodAll_cons r1
  obtain ⟨v3, vs3, d3, ds3, p3, q3, rfl, rfl, rfl, h3, r3⟩ := trodAll_cons r2
  obtain ⟨v4, vs4, d4, ds4, p4, q4, rfl, rfl, rfl, h4, r4⟩ := trodAll_cons r3
  obtain ⟨v5, vs5, d5, ds5, p5, q5, rfl, rfl, rfl, h5, r5⟩ := trodAll_cons r4
  obtain ⟨rfl, rfl, rfl⟩ := trodAll_nil r5
  obtain rfl := args_of hargs
  obtain ⟨rfl, rfl⟩ := trodVars_none hV
  obtain ⟨cs0, rfl, hz0⟩ := okWide_struct Try.underlying24 (hval 0 24 v0 rfl rfl)
  obtain ⟨fu0, hf0⟩ := h0
  obtain ⟨A0, n0, c0, l0, he0, hc0, hok0⟩ := open_heap (by simp only [Value.cells, Array.length_toList, hz0]; kernel_rfl) hf0 (hsm 0 _ _ rfl rfl)
  obtain rfl : cs0 = #[.slice A0 n0 c0] := by
    have h : cs0.toList = [.slice A0 n0 c0] := he0
    rw [← Array.toArray_toList (xs := cs0), h]
  obtain ⟨cs1, rfl, hz1⟩ := okWide_struct Try.underlying27 (hval 1 27 v1 rfl rfl)
  obtain ⟨fu1, hf1⟩ := h1
  obtain ⟨o1, he1, hok1⟩ := el_obj _ _ _ (by simp only [Value.cells, Array.length_toList, hz1]; kernel_rfl) hf1 (hsm 1 _ _ rfl rfl)
  obtain rfl : cs1 = #[.int .i64 o1.id, .slice o1.A o1.n o1.c] := by
    have h : cs1.toList = o1.cells := he1
    rw [← Array.toArray_toList (xs := cs1), h]; rfl
  obtain ⟨k2, rfl, rfl, rfl, w2⟩ := open_int Try.underlying2 (hval 2 2 v2 rfl rfl) h2
  obtain ⟨k3, rfl, rfl, rfl, w3⟩ := open_int Try.underlying3 (hval 3 3 v3 rfl rfl) h3
  obtain ⟨c04, c14, y04, y14, m4, rfl, rfl, rfl, hy04, hy14⟩ := Go.Joins.open_agg2 Try.underlying29 (by kernel_rfl) (by kernel_rfl) (hval 4 29 v4 rfl rfl) h4
  obtain ⟨vr4, e04, _⟩ := DataW.trod_bool Try.underlying4 hy04
  obtain ⟨vz4, e14, _, wz4⟩ := DataW.trod_int Try.underlying2 hy14
  simp at e04 e14
  subst e04 e14
  obtain ⟨k5, rfl, rfl, rfl, w5⟩ := open_int Try.underlying5 (hval 5 5 v5 rfl rfl) h5
  clear hA0 hval0 hval hA hsm 
  refine (does_any A0 n0 c0 l0 o1 k2 k3 ⟨vr4, vz4⟩ k5 W hok0 hok1 (wf_u8 w5).1 (wf_u8 w5).2).mono fun e W' ⟨he, hw⟩ => ?_
  subst he
  exact ⟨_, rfl, law_post Try.laidOut read_heapDoes hW' rfl rfl Try.underlying4 rfl hw⟩

theorem heapDoes_holds : Rows.HeapDoesSaid :=
  OpenClaim.holds_of_wide 3 Try.f3 rfl rfl rfl rfl rfl rfl rfl ⟨rfl, rfl, rfl, rfl, rfl⟩ rfl rfl rfl rfl rfl (by kernel_rfl) Try.func3 (by kernel_rfl)
    (of_decide_eq_true (by kernel_rfl)) (by unfold Func.isWrapper; first | (rw [if_pos (by decide +kernel)]; kernel_rfl) | (rw [if_neg (by decide +kernel)]; exact ⟨rfl, rfl⟩))
    (fun os started H enc _ => heapDoes_lifted os started H enc)
end Go.Proofs.Ytohflngcgmcllaa
