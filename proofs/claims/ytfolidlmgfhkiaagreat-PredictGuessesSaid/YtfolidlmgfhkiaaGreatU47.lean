/- speculatelaw19.PredictGuesses holds: whatever the input, it returns true and leaves its arguments as they were. No condition. -/
import Derived.Test.YtfolidlmgfhkiaaGreatU46
set_option linter.unusedVariables false
set_option linter.unusedSimpArgs false
set_option maxRecDepth 100000
set_option maxHeartbeats 4000000
namespace Go.Proofs.YtfolidlmgfhkiaaGreat
open Go.ChangeShapes Go.WideShapes Go.ChangeAt Go.RowKit Go.Deep
theorem wf_i8 {n:Int} (h:(Lit.int .i8 n).wf=true):-128<=n/\n<=127:=by
 have h1:IntKind.i8.min=-128:=rfl;have h2:IntKind.i8.max=127:=rfl;exact uu_
theorem wf_i16 {n:Int} (h:(Lit.int .i16 n).wf=true):-32768<=n/\n<=32767:=by
 have h1:IntKind.i16.min=-32768:=rfl;have h2:IntKind.i16.max=32767:=rfl;exact uu_
section
variable {H:Type} {enc:TypeId × Value->H} {W:World} {sp:Nat->Bool}
theorem trod_part {e:TypeId} {fs:Array Field} {fuel:Nat} {cs:VL} {x:DataW H × List MemPlace} (he:Tryz.prog.underlying e=some (.struct fs)) (h:DataW.trod enc Tryz.prog W 0 sp true fuel e cs=some x)
  (j:Nat) (f:Field) (hj:fs[j]?=some f) (k:Nat) (hc:Tryz.prog.cellsOf f.type=k):∃ (y:DataW H × List MemPlace) (n:Nat),DataW.trod enc Tryz.prog W 0 sp true n f.type ((cs.drop f.offset).take k)=some y:=by
 obtain ⟨ys,n',A3,hy,A0,A4,hf⟩:=DataW.trod_struct he h;have h1:=hf j f hj;rw [hc] at h1;have A2:j<fs.size:=(Array.getElem?_eq_some_iff.1 hj).1;have A1:ys[j]?=some (ys[j]'o_):=ge_ o_;exact ⟨_,_,h1.trans A1⟩
theorem el_cl:∀ n cs (y:DataW H × List MemPlace),cs.length=4->DataW.trod enc Tryz.prog W 0 sp true n 87 cs=some y->∃ x:Pr.Cl,cs=x.cells/\True:=by
 intro n cs y hl h;obtain ⟨y0,n0,t0⟩:=trod_part Tryz.underlying87 h 0 _ rfl 1 k_;obtain ⟨y1,n1,t1⟩:=trod_part Tryz.underlying87 h 1 _ rfl 1 k_;obtain ⟨y2,n2,t2⟩:=trod_part Tryz.underlying87 h 2 _ rfl 2 k_
 match cs,hl with
 | [a,b,c,d],_ =>
  have hf:=trod_fields Tryz.underlying38 k_ rfl t2;obtain ⟨v3,y3,n3,h3,t3⟩:=hf 0 _ rfl;obtain ⟨v4,y4,n4,h4,t4⟩:=hf 1 _ rfl;obtain ⟨z0,e0,_,_⟩:=DataW.trod_int Tryz.underlying2 t0;obtain ⟨z1,e1,_,_⟩:=DataW.trod_int Tryz.underlying3 t1;obtain ⟨z3,e3,_⟩:=DataW.trod_bool Tryz.underlying4 t3;obtain ⟨z4,e4,_,_⟩:=DataW.trod_int Tryz.underlying2 t4;simp at e0 e1 e3 e4 h3 h4;subst h3 h4 e0 e1 e3 e4;exact ⟨⟨z0,z1,z3,z4⟩,rfl,trivial⟩
end
theorem read_predictGuesses:∀ t ∈ Tryz.f4.params.toList,Tryz.prog.readableRec t=true/\t<Tryz.prog.types.size:=by
 have h:(Tryz.f4.params.toList.all fun t=>Tryz.prog.readableRec t && decide (t<Tryz.prog.types.size))=true:=by kernel_rfl
 intro t ht;have:=List.all_eq_true.1 h t ht
 simpa using this
theorem predictGuesses_lifted (os:Os) (started:os.Started) (H:Type) (enc:TypeId × Value->H) :
  ReturnsInHanded {} Tryz.checked os 4 .any (Rows.predictGuessesSpec.pre6 enc Tryz.prog Tryz.f4 Rows.predictGuessesRow.domain false) (Rows.predictGuessesSpec.post enc Tryz.prog Tryz.f4 false true false false):=by
 refine returnsInHanded_of_change (C:=Tryz.checked) Tryz.own started k_ Tryz.func4
  (ChangeSpec.witness6 (enc:=enc) (C:=Tryz.checked) false ⟨#[],#[.slice none 0 0,.int .i16 0,i_ 0,.int .i8 0,.bool false,.slice none 0 0],[]⟩ 8 k_ k_ k_ k_) ?_
 intro W A6 A3 ds gs A7 A2 hW _ _;have A1:∀ (j:Nat) t v,Tryz.f4.params[j]?=some t->A3[j]?=some v->Value.okWide Tryz.prog W .any A6 t v:=A2;have Aa:=hW;obtain ⟨p,q,A9,hV,rfl,_,_⟩:=hW;have hA:DataW.TrodAll enc Tryz.prog W 0 (fun _=>true) true Tryz.f4.params.toList A3.toList ds p:=A9;rw [Tryz.params4] at hA A1;obtain ⟨v0,Al,d0,Ae,p0,q0,A4,rfl,rfl,h0,r0⟩:=trodAll_cons hA;obtain ⟨v1,Am,d1,Af,p1,q1,rfl,rfl,rfl,h1,r1⟩:=trodAll_cons r0;obtain ⟨v2,An,d2,Ag,p2,q2,rfl,rfl,rfl,h2,r2⟩:=trodAll_cons r1;obtain ⟨v3,Ao,d3,Ah,p3,q3,rfl,rfl,rfl,h3,r3⟩:=trodAll_cons r2;obtain ⟨v4,Ap,d4,Ai,p4,q4,rfl,rfl,rfl,h4,r4⟩:=trodAll_cons r3;obtain ⟨v5,Aq,d5,Aj,p5,q5,rfl,rfl,rfl,h5,r5⟩:=trodAll_cons r4;obtain ⟨rfl,rfl,rfl⟩:=trodAll_nil r5;obtain rfl:=args_of A4;obtain ⟨rfl,rfl⟩:=trodVars_none hV;obtain ⟨A0,n0,c0,l0,rfl,Ab,Ak,Ac,A8⟩:=open_sl Tryz.underlying22 k_ d_ (A1 0 22 v0 rfl rfl) h0 el_byte;obtain ⟨k1,rfl,rfl,rfl,w1⟩:=open_int Tryz.underlying52 (A1 1 52 v1 rfl rfl) h1;obtain ⟨k2,rfl,rfl,rfl,w2⟩:=open_int Tryz.underlying2 (A1 2 2 v2 rfl rfl) h2;obtain ⟨k3,rfl,rfl,rfl,w3⟩:=open_int Tryz.underlying53 (A1 3 53 v3 rfl rfl) h3;obtain ⟨k4,rfl,rfl,rfl⟩:=open_bool Tryz.underlying4 (A1 4 4 v4 rfl rfl) h4;obtain ⟨A5,n5,c5,l5,rfl,_,_,Ad,_⟩:=open_sl Tryz.underlying54 k_ d_ (A1 5 54 v5 rfl rfl) h5 el_cl;clear A9 A2 A1 h0 h1 h2 h3 h4 h5;refine (Pr.law_any A0 n0 c0 l0 k1 k2 k3 k4 A5 n5 c5 l5 W Ac (fun i x hi=>A8 x (List.mem_of_getElem? hi)) Ab o_ o_ (wf_i16 w1) (wf_i8 w3) Ad).mono fun e W' ⟨he,hw⟩=>?_
 subst he;exact ⟨_,rfl,law_post Tryz.laidOut read_predictGuesses Aa rfl rfl Tryz.underlying4 rfl hw⟩
theorem predictGuesses_holds:Rows.PredictGuessesSaid :=
 OpenClaim.holds_of_wide 4 Tryz.f4 rfl rfl rfl rfl rfl rfl rfl ⟨rfl,rfl,rfl,rfl,rfl⟩ rfl rfl rfl rfl rfl k_ Tryz.func4 k_
  (of_decide_eq_true k_) (by unfold Func.isWrapper;first | (rw [if_pos (by decide +kernel)];kernel_rfl) | (rw [if_neg (by decide +kernel)];exact ⟨rfl,rfl⟩))
  (fun os A0 H A1 _=>predictGuesses_lifted os A0 H A1)
end Go.Proofs.YtfolidlmgfhkiaaGreat
