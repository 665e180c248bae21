/- speculatelaw27.SquashCloses holds: whatever the input, it returns true and leaves its arguments as they were. No condition. -/
import Derived.Test.YtfolidlmgfhkiaaGreatV46
set_option linter.unusedVariables false
set_option linter.unusedSimpArgs false
set_option maxRecDepth 100000
set_option maxHeartbeats 4000000
namespace Go.Proofs.YtfolidlmgfhkiaaGreat
open Go.ChangeShapes Go.WideShapes Go.ChangeAt Go.RowKit Go.Deep
theorem read_squashCloses:∀ t ∈ Tryz.f3.params.toList,Tryz.prog.readableRec t=true/\t<Tryz.prog.types.size:=by
 have h:(Tryz.f3.params.toList.all fun t=>Tryz.prog.readableRec t && decide (t<Tryz.prog.types.size))=true:=by kernel_rfl
 intro t ht;have:=List.all_eq_true.1 h t ht
 simpa using this
theorem squashCloses_lifted (os:Os) (started:os.Started) (H:Type) (enc:TypeId × Value->H) :
  ReturnsInHanded {} Tryz.checked os 3 .any (Rows.squashClosesSpec.pre6 enc Tryz.prog Tryz.f3 Rows.squashClosesRow.domain false) (Rows.squashClosesSpec.post enc Tryz.prog Tryz.f3 false true false false):=by
 refine returnsInHanded_of_change (C:=Tryz.checked) Tryz.own started k_ Tryz.func3
  (ChangeSpec.witness6 (enc:=enc) (C:=Tryz.checked) false ⟨#[],#[.slice none 0 0,i_ 0],[]⟩ 8 k_ k_ k_ k_) ?_
 intro W A5 A3 ds gs A6 A2 hW _ _;have A1:∀ (j:Nat) t v,Tryz.f3.params[j]?=some t->A3[j]?=some v->Value.okWide Tryz.prog W .any A5 t v:=A2;have A9:=hW;obtain ⟨p,q,A8,hV,rfl,_,_⟩:=hW;have hA:DataW.TrodAll enc Tryz.prog W 0 (fun _=>true) true Tryz.f3.params.toList A3.toList ds p:=A8;rw [Tryz.params3] at hA A1;obtain ⟨v0,Ag,d0,Ad,p0,q0,A4,rfl,rfl,h0,r0⟩:=trodAll_cons hA;obtain ⟨v1,Ah,d1,Ae,p1,q1,rfl,rfl,rfl,h1,r1⟩:=trodAll_cons r0;obtain ⟨rfl,rfl,rfl⟩:=trodAll_nil r1;obtain rfl:=args_of A4;obtain ⟨rfl,rfl⟩:=trodVars_none hV;obtain ⟨A0,n0,c0,l0,rfl,Aa,Af,Ab,A7⟩:=open_sl Tryz.underlying22 k_ d_ (A1 0 22 v0 rfl rfl) h0 el_byte;obtain ⟨k1,rfl,rfl,rfl,w1⟩:=open_int Tryz.underlying3 (A1 1 3 v1 rfl rfl) h1;clear A8 A2 A1 h0 h1;refine (Sq.law_any A0 n0 c0 l0 k1 W Ab (fun i x hi=>A7 x (List.mem_of_getElem? hi)) Aa o_ o_ (wf_i64 w1)).mono fun e W' ⟨he,hw⟩=>?_
 subst he;exact ⟨_,rfl,law_post Tryz.laidOut read_squashCloses A9 rfl rfl Tryz.underlying4 rfl hw⟩
theorem squashCloses_holds:Rows.SquashClosesSaid :=
 OpenClaim.holds_of_wide 3 Tryz.f3 rfl rfl rfl rfl rfl rfl rfl ⟨rfl,rfl,rfl,rfl,rfl⟩ rfl rfl rfl rfl rfl k_ Tryz.func3 k_
  (of_decide_eq_true k_) (by unfold Func.isWrapper;first | (rw [if_pos (by decide +kernel)];kernel_rfl) | (rw [if_neg (by decide +kernel)];exact ⟨rfl,rfl⟩))
  (fun os A0 H A1 _=>squashCloses_lifted os A0 H A1)
end Go.Proofs.YtfolidlmgfhkiaaGreat
