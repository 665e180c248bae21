/- speculatelaw29.DelayCounts holds: whatever the input, it returns true and leaves its arguments as they were. No condition. -/
import Derived.Test.YtfolidlmgfhkiaaGreatY40
set_option linter.unusedVariables false
set_option linter.unusedSimpArgs false
set_option maxRecDepth 100000
set_option maxHeartbeats 4000000
namespace Go.Proofs.YtfolidlmgfhkiaaGreat
open Go.ChangeShapes Go.WideShapes Go.ChangeAt Go.RowKit Go.Deep
theorem read_delayCounts:∀ t ∈ Tryz.f5.params.toList,Tryz.prog.readableRec t=true/\t<Tryz.prog.types.size:=by
 have h:(Tryz.f5.params.toList.all fun t=>Tryz.prog.readableRec t && decide (t<Tryz.prog.types.size))=true:=by kernel_rfl
 intro t ht;have:=List.all_eq_true.1 h t ht
 simpa using this
theorem delayCounts_lifted (os:Os) (started:os.Started) (H:Type) (enc:TypeId × Value->H) :
  ReturnsInHanded {} Tryz.checked os 5 .any (Rows.delayCountsSpec.pre6 enc Tryz.prog Tryz.f5 Rows.delayCountsRow.domain false) (Rows.delayCountsSpec.post enc Tryz.prog Tryz.f5 false true false false):=by
 refine returnsInHanded_of_change (C:=Tryz.checked) Tryz.own started k_ Tryz.func5
  (ChangeSpec.witness6 (enc:=enc) (C:=Tryz.checked) false ⟨#[],#[.slice none 0 0,i_ 0,i_ 0,i_ 0,i_ 0],[]⟩ 8 k_ k_ k_ k_) ?_
 intro W A5 A3 ds gs A6 A2 hW _ _;have A1:∀ (j:Nat) t v,Tryz.f5.params[j]?=some t->A3[j]?=some v->Value.okWide Tryz.prog W .any A5 t v:=A2;have A9:=hW;obtain ⟨p,q,A8,hV,rfl,_,_⟩:=hW;have hA:DataW.TrodAll enc Tryz.prog W 0 (fun _=>true) true Tryz.f5.params.toList A3.toList ds p:=A8;rw [Tryz.params5] at hA A1;obtain ⟨v0,Ai,d0,Ac,p0,q0,A4,rfl,rfl,h0,r0⟩:=trodAll_cons hA;obtain ⟨v1,Aj,d1,Ad,p1,q1,rfl,rfl,rfl,h1,r1⟩:=trodAll_cons r0;obtain ⟨v2,Ak,d2,Ae,p2,q2,rfl,rfl,rfl,h2,r2⟩:=trodAll_cons r1;obtain ⟨v3,Al,d3,Af,p3,q3,rfl,rfl,rfl,h3,r3⟩:=trodAll_cons r2;obtain ⟨v4,Am,d4,Ag,p4,q4,rfl,rfl,rfl,h4,r4⟩:=trodAll_cons r3;obtain ⟨rfl,rfl,rfl⟩:=trodAll_nil r4;obtain rfl:=args_of A4;obtain ⟨rfl,rfl⟩:=trodVars_none hV;obtain ⟨A0,n0,c0,l0,rfl,Aa,Ah,Ab,A7⟩:=open_sl Tryz.underlying22 k_ d_ (A1 0 22 v0 rfl rfl) h0 el_byte;obtain ⟨k1,rfl,rfl,rfl,w1⟩:=open_int Tryz.underlying3 (A1 1 3 v1 rfl rfl) h1;obtain ⟨k2,rfl,rfl,rfl,w2⟩:=open_int Tryz.underlying3 (A1 2 3 v2 rfl rfl) h2;obtain ⟨k3,rfl,rfl,rfl,w3⟩:=open_int Tryz.underlying3 (A1 3 3 v3 rfl rfl) h3;obtain ⟨k4,rfl,rfl,rfl,w4⟩:=open_int Tryz.underlying3 (A1 4 3 v4 rfl rfl) h4;clear A8 A2 A1 h0 h1 h2 h3 h4;refine (Dl.counts_any A0 n0 c0 l0 k1 k2 k3 k4 W Ab (fun i x hi=>A7 x (List.mem_of_getElem? hi)) Aa o_ o_ (wf_i64 w1) (wf_i64 w2) (wf_i64 w3) (wf_i64 w4)).mono fun e W' ⟨he,hw⟩=>?_
 subst he;exact ⟨_,rfl,law_post Tryz.laidOut read_delayCounts A9 rfl rfl Tryz.underlying4 rfl hw⟩
theorem delayCounts_holds:Rows.DelayCountsSaid :=
 OpenClaim.holds_of_wide 5 Tryz.f5 rfl rfl rfl rfl rfl rfl rfl ⟨rfl,rfl,rfl,rfl,rfl⟩ rfl rfl rfl rfl rfl k_ Tryz.func5 k_
  (of_decide_eq_true k_) yq_
  (fun os A0 H A1 _=>delayCounts_lifted os A0 H A1)
end Go.Proofs.YtfolidlmgfhkiaaGreat
