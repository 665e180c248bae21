/- speculatelaw20.SequenceStays: whatever the input, it returns true and leaves its arguments as they were. -/
import Derived.Test.YtbmembmiejmoaaaDoorQ
import Derived.Test.YtbmembmiejmoaaaDoorLE
import Derived.Test.YtbmembmiejmoaaaDoorCards
namespace Go.Proofs.YtbmembmiejmoaaaDoor
open Go.ChangeShapes Go.WideShapes Go.ChangeAt Go.RowKit Go.Deep

theorem read_sequenceStays : ∀ t ∈ Tryd.f5.params.toList, Tryd.prog.readableRec t = true ∧ t < Tryd.prog.types.size := by
  have h : (Tryd.f5.params.toList.all fun t => Tryd.prog.readableRec t && decide (t < Tryd.prog.types.size)) = true := by kernel_rfl
  intro t ht
  have := List.all_eq_true.1 h t ht
  simpa using this

set_option maxRecDepth 100000 in
theorem sequenceStays_lifted (os : Os) (started : os.Started) (H : Type) (enc : TypeId × Value → H) :
    ReturnsInHanded {} Tryd.checked os 5 .any (fun w args => (Rows.sequenceStaysSpec.pre enc Tryd.prog Tryd.f5 [] false w args ∧ laidMetH Tryd.prog laidL w) ∧ sizedMet enc Tryd.prog Tryd.f5 (OpenSpec.ofChange Rows.sequenceStaysSpec) false w args)
      (Rows.sequenceStaysSpec.post enc Tryd.prog Tryd.f5 false true false false) := by
  refine returnsInHanded_of_change_and (C := Tryd.checked) (X := fun w _ => laidMetH Tryd.prog laidL w) (fun _ _ _ hh h => h.of_heap hh) Tryd.own started (by kernel_rfl) Tryd.func5
    (ChangeSpec.witness_shaped (enc := enc) (C := Tryd.checked) (os := os) (X := fun w _ => laidMetH Tryd.prog laidL w) false (World.doorLaid Tryd.prog 147 os) #[.slice none 0 0, .slice none 0 0, .int .i8 0, .int .i8 0, .int .u8 0] 8 rfl (World.shaped_of_RefB (by kernel_rfl) (by kernel_rfl)) (by kernel_rfl) (by kernel_rfl) (by kernel_rfl) (door_met os _)) ?_
  intro W base args ds gs before hval0 hW _ _ hL _
  have hval : ∀ (j : Nat) t v, Tryd.f5.params[j]? = some t → args[j]? = some v → Value.okWide Tryd.prog W .any base t v := hval0
  have hW' := hW
  obtain ⟨p, q, hA0, hV, rfl, _, _⟩ := hW
  have hA : DataW.TrodAll enc Tryd.prog W 0 (fun _ => true) true Tryd.f5.params.toList args.toList ds p := hA0
  rw [Tryd.params5] at hA hval
  obtain ⟨v0, vs0, d0, ds0, p0, q0, hargs, rfl, rfl, h0, r0⟩ := trodAll_cons hA
  obtain ⟨v1, vs1, d1, ds1, p1, q1, rfl, rfl, rfl, h1, r1⟩ := trodAll_cons r0
  obtain ⟨v2, vs2, d2, ds2, p2, q2, rfl, rfl, rfl, h2, r2⟩ := trodAll_cons r1
  obtain ⟨v3, vs3, d3, ds3, p3, q3, rfl, rfl, rfl, h3, r3⟩ := trodAll_cons r2
  obtain ⟨v4, vs4, d4, ds4, p4, q4, rfl, rfl, rfl, h4, r4⟩ := trodAll_cons r3
  obtain ⟨rfl, rfl, rfl⟩ := trodAll_nil r4
  obtain rfl := args_of hargs
  obtain ⟨rfl, rfl⟩ := trodVars_none hV
  obtain ⟨KA, kn, kc, ks, rfl, hkc, hkm, hk, hkok⟩ := open_sl Tryd.underlying22 (by kernel_rfl) (by decide) (hval 0 22 v0 rfl rfl) h0 el_i8
  obtain ⟨VA, vn, vc, vs, rfl, hvc, hvm, hv, hvok⟩ := open_sl Tryd.underlying22 (by kernel_rfl) (by decide) (hval 1 22 v1 rfl rfl) h1 el_i8
  obtain ⟨a, rfl, rfl, rfl, wa⟩ := open_int Tryd.underlying28 (hval 2 28 v2 rfl rfl) h2
  obtain ⟨b, rfl, rfl, rfl, wb⟩ := open_int Tryd.underlying28 (hval 3 28 v3 rfl rfl) h3
  obtain ⟨m, rfl, rfl, rfl, wm⟩ := open_int Tryd.underlying5 (hval 4 5 v4 rfl rfl) h4
  have ht := tab_of_laid hL
  clear hA0 hval0 hval hL h0 h1 h2 h3 h4
  refine (stays_any KA kn kc VA vn vc ks vs a b m W ht hk hv (by omega) (by omega) (fun i k hi => hkok k (List.mem_of_getElem? hi)) (fun i k hi => hvok k (List.mem_of_getElem? hi)) (wf_i8 wa) (wf_i8 wb) (wf_u8 wm)).mono fun e W' ⟨he, hw⟩ => ?_
  subst he
  exact ⟨_, rfl, law_post Tryd.laidOut read_sequenceStays hW' rfl rfl Tryd.underlying4 rfl hw⟩

theorem sequenceStays_row : Rows.SequenceStaysSaid :=
  OpenClaim.holds_of_wide 5 Tryd.f5 rfl rfl rfl rfl rfl rfl rfl ⟨rfl, rfl, rfl, rfl, rfl⟩ rfl rfl rfl rfl rfl (by kernel_rfl) Tryd.func5 (by kernel_rfl)
    (of_decide_eq_true (by kernel_rfl)) (by unfold Func.isWrapper; first | (rw [if_pos (by decide +kernel)]; kernel_rfl) | (rw [if_neg (by decide +kernel)]; exact ⟨rfl, rfl⟩))
    (fun os started H enc _ => sequenceStays_lifted os started H enc)

theorem sequenceStays_holds : Rows.SequenceStaysCardSaid :=
  Claim7.holds_tied_plain_at .later [] [.mapped, .data] true (true, "3dd53c472d28f8c07659483f61f931deba23d5c842009b42bcee139b44c874dd") false
    sequenceStays_row (fun _ h => by cases h) (by kernel_rfl) (fun _ h => by cases h) sequenceStays_row_tie rfl ⟨rfl, rfl⟩ (by kernel_rfl) rfl
    (fun f fn hf hfn => by
      obtain rfl : f = 5 := Option.some.inj ((show Tryd.prog.funcNamed "speculate/speculatelaw20.SequenceStays" = some 5 by kernel_rfl).symm.trans hf) |>.symm
      obtain rfl : fn = Tryd.f5 := (Option.some.inj (Tryd.func5.symm.trans hfn)).symm
      exact ⟨by kernel_rfl, fun j t ht => by
        rw [Tryd.params5] at ht
        have hm : t ∈ [22, 28, 5] := by have := Array.mem_of_getElem? ht; simp at this ⊢; omega
        have hall : ([22, 28, 5].all fun u => !Tryd.prog.wantsStandIn u) = true := by kernel_rfl
        exact (show Tryd.prog.wantsStandIn t = false by simpa using List.all_eq_true.1 hall t hm)⟩)
    (by kernel_rfl)
end Go.Proofs.YtbmembmiejmoaaaDoor
