/- speculatelaw21.ValidateAny: whatever the input, it returns true and leaves its arguments as they were. No condition. -/
import Derived.Test.YtfhpniafkkgibaaDoorS
import Derived.Test.YtfhpniafkkgibaaDoorEl
import Derived.Test.YtfhpniafkkgibaaDoorCards
import Derived.Test.YtfhpniafkkgibaaDoorTie
import Derived.ChangeSame
import Derived.ChangeVars
import Derived.JoinedOf
import Derived.LaidLaws
import Derived.LaidHandle
import Derived.Stop.Joined
import Derived.SevenTiedAt
import Derived.Lib.SmallJoins
namespace Go.Proofs.YtfhpniafkkgibaaDoor
open Go.ChangeShapes Go.WideShapes Go.ChangeAt Go.RowKit Go.Deep

def laidL : List (String × DataW Unit) := [("errors.errorType", Rows.laid_errors_errorType)]
theorem Tryd.et : Tryd.prog.globalNamed "errors.errorType" = some 0 := by kernel_rfl
theorem Tryd.rt : (Tryd.prog.cutTypes.find? (·.1 == "internal/reflectlite.rtype")).map (·.2) = some 90 := by kernel_rfl
theorem Tryd.oneRow : ((List.range 138).filter fun t => Tryd.prog.rowNamed t [101, 114, 114, 111, 114]) = [55] := by kernel_rfl
theorem Tryd.size : Tryd.prog.types.size = 138 := by kernel_rfl
theorem err_of_laid {W : World} (h : laidMetH Tryd.prog laidL W) : ErrT W := by
  have h' : laidMet Tryd.prog [] W ∧ handlesMet Tryd.prog laidL W := h
  obtain ⟨name, u, ty, e1, e2, e3, e4, e5⟩ := h'.2 _ (List.mem_singleton.2 rfl)
  have en : name = [101, 114, 114, 111, 114] := (Option.some.inj e1).symm
  subst en
  obtain rfl := Option.some.inj (Tryd.rt.symm.trans e2)
  have hm : ty ∈ (List.range 138).filter fun t => Tryd.prog.rowNamed t [101, 114, 114, 111, 114] := List.mem_filter.2 ⟨List.mem_range.2 (by rw [← Tryd.size]; exact e3), e4⟩
  rw [Tryd.oneRow] at hm
  obtain rfl := List.mem_singleton.1 hm
  have hh : typeHandle Tryd.prog 55 = .pointer (some ⟨1, 55, none⟩) := by kernel_rfl
  rw [hh] at e5
  unfold ErrT
  simpa using World.var?_cell Tryd.et e5 0
/-- A world that meets the condition: the settled one, the variable's cell laid. -/
noncomputable def laidWorld (os : Os) : World :=
  let w0 := World.holding Tryd.prog os ⟨#[], #[], []⟩
  { w0 with heap := w0.heap.modify 0 fun
      | .cells _ t frozen => .cells #[.iface 90 (.agg #[.pointer (some ⟨1, 55, none⟩)])] t frozen
      | o => o }
theorem laidWorld_met (os : Os) (args : Array Value) : laidMetH Tryd.prog laidL ((laidWorld os).forCall (fun _ _ => 0) ⟨#[], args, []⟩).memory :=
  laidMetH_of_parts (laidMet_nil _ _) (by kernel_rfl)

theorem read_validateAny : ∀ t ∈ Tryd.f3.params.toList, Tryd.prog.readableRec t = true ∧ t < Tryd.prog.types.size := by
  have h : (Tryd.f3.params.toList.all fun t => Tryd.prog.readableRec t && decide (t < Tryd.prog.types.size)) = true := by kernel_rfl
  intro t ht
  have := List.all_eq_true.1 h t ht
  simpa using this

set_option maxRecDepth 100000 in
theorem validateAny_lifted (os : Os) (started : os.Started) (H : Type) (enc : TypeId × Value → H) :
    ReturnsInHanded {} Tryd.checked os 3 .any (fun w args => (Rows.validateAnySpec.pre enc Tryd.prog Tryd.f3 [] false w args ∧ laidMetH Tryd.prog laidL w) ∧ sizedMet enc Tryd.prog Tryd.f3 (OpenSpec.ofChange Rows.validateAnySpec) false w args)
      (Rows.validateAnySpec.post enc Tryd.prog Tryd.f3 false true false false) := by
  refine returnsInHanded_of_change_and (C := Tryd.checked) (X := fun w _ => laidMetH Tryd.prog laidL w) (fun _ _ _ hh h => h.of_heap hh) Tryd.own started (by kernel_rfl) Tryd.func3
    (ChangeSpec.witness_at (enc := enc) (C := Tryd.checked) (os := os) (X := fun w _ => laidMetH Tryd.prog laidL w) false (laidWorld os) #[.agg #[.slice none 0 0], .agg zeroT.toArray, .int .u8 0, .bool false] 8 rfl (by kernel_rfl) (by kernel_rfl) (by kernel_rfl) (by kernel_rfl) (by kernel_rfl) (laidWorld_met os _)) ?_
  intro W base args ds gs before hval0 hW _ hwt hL _
  have hval : ∀ (j : Nat) t v, Tryd.f3.params[j]? = some t → args[j]? = some v → Value.okWide Tryd.prog W .any base t v := hval0
  have hsm : ∀ (j : Nat) t d, (Tryd.f3.params.toList ++ Rows.validateAnySpec.plain.varTypes Tryd.prog)[j]? = some t → (ds ++ gs)[j]? = some d → SmallD Tryd.prog t d := fun j t d ht hd => small_args hwt ht hd
  have hW' := hW
  obtain ⟨p, q, hA0, hV, rfl, _, _⟩ := hW
  have hA : DataW.TrodAll enc Tryd.prog W 0 (fun _ => true) true Tryd.f3.params.toList args.toList ds p := hA0
  rw [Tryd.params3] at hA hval hsm
  obtain ⟨v0, vs0, d0, ds0, p0, q0, hargs, rfl, rfl, h0, r0⟩ := trodAll_cons hA
  obtain ⟨v1, vs1, d1, ds1, p1, q1, rfl, rfl, rfl, h1, r1⟩ := trodAll_cons r0
  obtain ⟨v2, vs2, d2, ds2, p2, q2, rfl, rfl, rfl, h2, r2⟩ := trodAll_cons r1
  obtain ⟨v3, vs3, d3, ds3, p3, q3, rfl, rfl, rfl, h3, r3⟩ := trodAll_cons r2
  obtain ⟨rfl, rfl, rfl⟩ := trodAll_nil r3
  obtain rfl := args_of hargs
  obtain ⟨rfl, rfl⟩ := trodVars_none hV
  obtain ⟨cs0, rfl, hz0⟩ := okWide_struct Tryd.underlying24 (hval 0 24 v0 rfl rfl)
  obtain ⟨fu0, hf0⟩ := h0
  obtain ⟨A0, n0, c0, l0, he0, hok0, hn0⟩ := open_heap (by simp only [Value.cells, Array.length_toList, hz0]; kernel_rfl) hf0 (hsm 0 _ _ rfl rfl)
  obtain rfl : cs0 = #[.slice A0 n0 c0] := by
    have h : cs0.toList = [.slice A0 n0 c0] := he0
    rw [← Array.toArray_toList (xs := cs0), h]
  have hv1 := hval 1 34 v1 rfl rfl
  simp only [Value.okWide, Tryd.underlying34] at hv1
  obtain ⟨cs1, rfl, hz1, ts, _, _, hcell⟩ := hv1
  obtain ⟨fu1, hf1⟩ := h1
  have hone : cs1.toList.all (·.oneCell') = true := by
    rw [List.all_eq_true]
    intro v hv
    obtain ⟨i, hi⟩ := List.getElem?_of_mem hv
    obtain ⟨u, _, hc⟩ := hcell i v (by rw [← Array.getElem?_toList]; exact hi)
    exact one_of_okWide hc
  obtain ⟨t, gl, rs, ws, dl, ns, al, he1, ⟨g1, g2⟩, ⟨x1, x2⟩, ⟨y1, y2⟩, ⟨w1, w2⟩, ⟨o1, o2⟩, ⟨a1, a2⟩, nwf, wwf⟩ := open_task (by rw [Array.length_toList, hz1]; kernel_rfl) hone hf1 (hsm 1 _ _ rfl rfl)
  obtain rfl : cs1 = t.cells.toArray := by rw [← Array.toArray_toList (xs := cs1), he1]
  obtain ⟨k2, rfl, rfl, rfl, wf2⟩ := open_int Tryd.underlying5 (hval 2 5 v2 rfl rfl) h2
  obtain ⟨k3, rfl, rfl, rfl⟩ := open_bool Tryd.underlying4 (hval 3 4 v3 rfl rfl) h3
  have ht := err_of_laid hL
  clear hA0 hval0 hval hL hcell hf0 hf1 hsm hA
  refine (any_law A0 n0 c0 l0 t gl rs ws dl ns al k2 k3 W ht hok0 hn0 g1 g2 x1 x2 y1 y2 w1 w2 o1 o2 a1 a2 nwf wwf (wf_u8 wf2)).mono fun e W' ⟨he, hw⟩ => ?_
  subst he
  exact ⟨_, rfl, law_post Tryd.laidOut read_validateAny hW' rfl rfl Tryd.underlying4 rfl hw⟩

theorem validateAny_row : Rows.ValidateAnySaid :=
  OpenClaim.holds_of_wide 3 Tryd.f3 rfl rfl rfl rfl rfl rfl rfl ⟨rfl, rfl, rfl, rfl, rfl⟩ rfl rfl rfl rfl rfl (by kernel_rfl) Tryd.func3 (by kernel_rfl)
    (of_decide_eq_true (by kernel_rfl)) (by unfold Func.isWrapper; first | (rw [if_pos (by decide +kernel)]; kernel_rfl) | (rw [if_neg (by decide +kernel)]; exact ⟨rfl, rfl⟩))
    (fun os started H enc _ => validateAny_lifted os started H enc)

theorem validateAny_holds : Rows.ValidateAnyCardSaid :=
  Claim7.holds_tied_plain_at .later [] [.handle] true (true, "07b7e3bfb03fe92f6d9ffcf708b8a3bd23aabaaf966407103aa0c09a098ca999") true
    validateAny_row (fun _ h => by cases h) (by kernel_rfl) (fun _ h => by cases h) validateAny_row_tie rfl ⟨rfl, rfl⟩ (by kernel_rfl) rfl
    (fun f fn hf hfn => by
      obtain rfl : f = 3 := Option.some.inj ((show Tryd.prog.funcNamed "speculate/speculatelaw21.ValidateAny" = some 3 by kernel_rfl).symm.trans hf) |>.symm
      obtain rfl : fn = Tryd.f3 := (Option.some.inj (Tryd.func3.symm.trans hfn)).symm
      exact ⟨by kernel_rfl, fun j t ht => by
        rw [Tryd.params3] at ht
        have hm : t ∈ [24, 34, 5, 4] := by have := Array.mem_of_getElem? ht; simp at this ⊢; omega
        have hall : ([24, 34, 5, 4].all fun u => !Tryd.prog.wantsStandIn u) = true := by kernel_rfl
        exact (show Tryd.prog.wantsStandIn t = false by simpa using List.all_eq_true.1 hall t hm)⟩)
    (by kernel_rfl)
end Go.Proofs.YtfhpniafkkgibaaDoor
