/- speculatelaw19.PredictReferences holds: whatever the input, it returns true and leaves its arguments as they were. No condition. -/
import Derived.Test.YtjioipecaemckaaR
import Derived.Test.YtjioipecaemckaaLift
namespace Go.Proofs.Ytjioipecaemckaa
open Go.ChangeShapes Go.WideShapes Go.ChangeAt Go.RowKit Go.Deep

section
variable {H : Type} {enc : TypeId × Value → H} {W : World}
theorem el_key {sp : Nat → Bool} : ∀ n cs y, cs.length = 1 → DataW.trod enc Try.prog W 0 sp true n 5 cs = some y → ∃ x : Int, cs = keyCells x ∧ (0 ≤ x ∧ x ≤ 255) := by
  intro n cs y _ h
  obtain ⟨x, rfl, _, hw⟩ := DataW.trod_int Try.underlying5 h
  exact ⟨x, rfl, wf_u8 hw⟩
theorem el_val {sp : Nat → Bool} : ∀ n cs y, cs.length = 2 → DataW.trod enc Try.prog W 0 sp true n 31 cs = some y → ∃ x : Val, cs = x.cells ∧ (-9223372036854775808 ≤ x.n ∧ x.n ≤ 9223372036854775807) := by
  intro n cs y hl h
  have hf := trod_fields Try.underlying31 (by kernel_rfl) hl h
  obtain ⟨v0, y0, n0, h0, t0⟩ := hf 0 _ rfl
  obtain ⟨v1, y1, n1, h1, t1⟩ := hf 1 _ rfl
  obtain ⟨b, e0, _⟩ := DataW.trod_bool Try.underlying4 t0
  obtain ⟨z, e1, _, hw⟩ := DataW.trod_int Try.underlying2 t1
  simp at e0 e1
  subst e0 e1
  refine ⟨⟨b, z⟩, ?_, wf_i64 hw⟩
  match cs, hl, h0, h1 with
  | [a, c], _, h0, h1 => simp at h0 h1; subst h0 h1; rfl
end

theorem read22 : ∀ t ∈ Try.f6.params.toList, Try.prog.readableRec t = true ∧ t < Try.prog.types.size := by
  have h : (Try.f6.params.toList.all fun t => Try.prog.readableRec t && decide (t < Try.prog.types.size)) = true := by kernel_rfl
  intro t ht
  have := List.all_eq_true.1 h t ht
  simpa using this

set_option maxRecDepth 100000 in
theorem references_lifted (os : Os) (started : os.Started) (H : Type) (enc : TypeId × Value → H) :
    ReturnsInHanded {} Try.checked os 6 .any (Rows.predictReferencesSpec.pre6 enc Try.prog Try.f6 Rows.predictReferencesRow.domain false) (Rows.predictReferencesSpec.post enc Try.prog Try.f6 false true false false) := by
  refine returnsInHanded_of_change (C := Try.checked) Try.own started (by kernel_rfl) Try.func6
    (ChangeSpec.witness6 (enc := enc) (C := Try.checked) false ⟨#[], #[.slice none 0 0, .slice none 0 0, .int .i64 0, .int .i64 0], []⟩ 8 (by kernel_rfl) (by kernel_rfl) (by kernel_rfl) (by kernel_rfl)) ?_
  intro W base args ds gs before hval0 hW _ _
  have hval : ∀ (j : Nat) t v, Try.f6.params[j]? = some t → args[j]? = some v → Value.okWide Try.prog W .any base t v := hval0
  have hW' := hW
  obtain ⟨p, q, hA0, hV, rfl, _, _⟩ := hW
  have hA : DataW.TrodAll enc Try.prog W 0 (fun _ => true) true Try.f6.params.toList args.toList ds p := hA0
  rw [Try.params6] at hA hval
  obtain ⟨v0, v1, v2, v3, d0, d1, d2, d3, p0, p1, p2, p3, rfl, rfl, rfl, h0, h1, h2, h3⟩ := trodAll_four hA
  obtain ⟨rfl, rfl⟩ := trodVars_none hV
  obtain ⟨KA, kn, kc, ks, rfl, hkc, hkm, hk, hkok⟩ := open_sl Try.underlying22 (by kernel_rfl) (by decide) (hval 0 22 v0 rfl rfl) h0 el_key
  obtain ⟨VA, vn, vc, vs, rfl, hvc, hvm, hv, _⟩ := open_sl Try.underlying23 (by kernel_rfl) (by decide) (hval 1 23 v1 rfl rfl) h1 el_val
  obtain ⟨id, rfl, rfl, rfl, wi⟩ := open_int Try.underlying2 (hval 2 2 v2 rfl rfl) h2
  obtain ⟨n, rfl, rfl, rfl, wn⟩ := open_int Try.underlying2 (hval 3 2 v3 rfl rfl) h3
  clear hA0 hval0 hval hA h0 h1 h2 h3
  refine (references_any KA kn kc VA vn vc ks vs id n W hk hv (by omega) (by omega) (fun i k hi => hkok k (List.mem_of_getElem? hi)) (wf_i64 wn)).mono fun e W' ⟨he, hw⟩ => ?_
  subst he
  exact ⟨_, rfl, law_post Try.laidOut read22 hW' rfl rfl Try.underlying4 rfl hw⟩

theorem references_holds : Rows.PredictReferencesSaid :=
  OpenClaim.holds_of_wide 6 Try.f6 rfl rfl rfl rfl rfl rfl rfl ⟨rfl, rfl, rfl, rfl, rfl⟩ rfl rfl rfl rfl rfl (by kernel_rfl) Try.func6 (by kernel_rfl)
    (of_decide_eq_true (by kernel_rfl)) (by unfold Func.isWrapper; first | (rw [if_pos (by decide +kernel)]; kernel_rfl) | (rw [if_neg (by decide +kernel)]; exact ⟨rfl, rfl⟩))
    (fun os started H enc _ => references_lifted os started H enc)
end Go.Proofs.Ytjioipecaemckaa
