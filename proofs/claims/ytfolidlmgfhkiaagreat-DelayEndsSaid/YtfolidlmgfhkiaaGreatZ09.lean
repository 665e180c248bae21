/- Lemmas: each says what a function of the program leaves, under the conditions that it states. -/
import Derived.Test.YtfolidlmgfhkiaaGreatZ08
import Derived.Orders
set_option linter.unusedVariables false
set_option linter.unusedSimpArgs false
set_option maxRecDepth 100000
set_option maxHeartbeats 4000000
namespace Go.Proofs.YtfolidlmgfhkiaaGreat
open Go.RowKit Go.Proofs.Tryz
theorem num_m (n:Int) (w:World):Calls prog 118 #[i_ n] w fun e w'=>e=.returned (.agg #[i_ 1,i_ n,.string ⟨#[]⟩,i_ 0,.slice none 0 0])/\Below w w w':=by
 obtain ⟨W,hW,A0,A1,B0⟩:=af_ w [i_ 0,i_ 0,.string ⟨#[]⟩,i_ 0,.slice none 0 0] 209;have HB:=q_ B0;have HW:=q_ A0;have z0:=B0.2.1 0 _ rfl;have z1:=B0.2.1 1 _ rfl;have z2:=B0.2.1 2 _ rfl;have z3:=B0.2.1 3 _ rfl;have z4:=B0.2.1 4 _ rfl;have zf:=B0.2.2;have hz:(w:Nat)<W:=by omega
 clear B0 A0 A1;go_enter func118,ntmps118;go_upto_region 1 with fail;rw [←hW];clear hW;go_wp2;refine retC results118 (by rfl) underlying209 rfl k_ (cs:=[_,_,_,_,_]) (((((HB.o.set 0 _).set 1 _).set 2 _).set 3 _).set 4 _).whole rfl ?_;exact ⟨rfl,(bel HW.o)⟩
theorem name_m (s:ByteArray) (w:World):Calls prog 119 #[.string s] w fun e w'=>e=.returned (.agg #[i_ 3,i_ 0,.string s,i_ 0,.slice none 0 0])/\Below w w w':=by
 obtain ⟨W,hW,A0,A1,B0⟩:=af_ w [i_ 0,i_ 0,.string ⟨#[]⟩,i_ 0,.slice none 0 0] 209;have HB:=q_ B0;have HW:=q_ A0;have z0:=B0.2.1 0 _ rfl;have z1:=B0.2.1 1 _ rfl;have z2:=B0.2.1 2 _ rfl;have z3:=B0.2.1 3 _ rfl;have z4:=B0.2.1 4 _ rfl;have zf:=B0.2.2;have hz:(w:Nat)<W:=by omega
 clear B0 A0 A1;go_enter func119,ntmps119;go_upto_region 1 with fail;rw [←hW];clear hW;go_wp2;refine retC results119 (by rfl) underlying209 rfl k_ (cs:=[_,_,_,_,_]) (((((HB.o.set 0 _).set 1 _).set 2 _).set 3 _).set 4 _).whole rfl ?_;exact ⟨rfl,(bel HW.o)⟩
theorem names_m (w:World):Calls prog 167 #[] w fun e w'=>e=.returned (.slice (some (a_ w)) 5 5)/\(w':Nat)=w+1/\Below w w w'/\∀ i,i<5->∃ s:ByteArray,w'.cell? (f_ w i)=some (.string s)/\s.size<=100:=by
 go_enter func167,ntmps167;go_wp2;go_ret;refine ⟨rfl,by simp,(b_).alloc (l_) _,fun i hi=>?_⟩
 match i,hi with
 | 0,_=>exact ⟨_,by rw [aj_ _ _ _ _ _ rfl];rfl,d_⟩
 | 1,_=>exact ⟨_,by rw [aj_ _ _ _ _ _ rfl];rfl,d_⟩
 | 2,_=>exact ⟨_,by rw [aj_ _ _ _ _ _ rfl];rfl,d_⟩
 | 3,_=>exact ⟨_,by rw [aj_ _ _ _ _ _ rfl];rfl,d_⟩
 | 4,_=>exact ⟨_,by rw [aj_ _ _ _ _ _ rfl];rfl,d_⟩
theorem Bx.new' {w:World} {b:Nat} (cs:VL) (t:TypeId) (hb:w=b):Bx (w.alloc (.cells cs.toArray t)) b cs:=by subst hb;exact Bx.new w cs t
def ExV (w:World) (X:NP) (d:Nat) (kd n:Int) (s:ByteArray) (op:Int) (A:OA) (m c:Nat):Prop:=VTs w X 20 (ay_ d) (exL kd n s op A m c)/\pE (exL kd n s op A m c)
theorem bin_m (X:NP) (d:Nat) (op kd n:Int) (s:ByteArray) (o:Int) (A:OA) (m c:Nat) (kd' n':Int) (s':ByteArray) (o':Int) (A':OA) (m' c':Nat) (w:World) (h1:ExV w X d kd n s o A m c) (h2:ExV w X d kd' n' s' o' A' m' c') (hX:∀ k,X k->k<w) :
  Calls prog 117 #[i_ op,.agg #[i_ kd,i_ n,.string s,i_ o,.slice A m c],.agg #[i_ kd',i_ n',.string s',i_ o',.slice A' m' c']] w fun e w'=>RE X (d+1) e w'/\Below w w w':=by
 obtain ⟨W,hW,A1,A2,B0,B1,B2⟩:=el_ w (exL kd n s o A m c) 209 (exL kd' n' s' o' A' m' c') 209 [i_ 0,i_ 0,.string ⟨#[]⟩,i_ 0,.slice none 0 0] 209;have HB:=h_ (Bx W (w+1+1) _) B2;have HW:=q_ A1;have H1:=q_ h1.1;have H2:=q_ h2.1;have P1:=q_ h1.2;have P2:=q_ h2.2;have HX:=h_ (¬X W) (fun h=>by have:=hX _ h;omega);have hz:(w:Nat)+2<W:=by omega
 have A4:¬(w:Nat)+1+1=W:=by omega
 have A0:W=((w.alloc (.cells #[i_ kd,i_ n,.string s,i_ o,.slice A m c] 209)).alloc (.cells #[i_ kd',i_ n',.string s',i_ o',.slice A' m' c'] 209)).alloc (.cells #[i_ 0,i_ 0,.string ⟨#[]⟩,i_ 0,.slice none 0 0] 209):=hW;have x0:=B0.2.1 0 _ rfl;have x1:=B0.2.1 1 _ rfl;have x2:=B0.2.1 2 _ rfl;have x3:=B0.2.1 3 _ rfl;have x4:=B0.2.1 4 _ rfl;have y0:=B1.2.1 0 _ rfl;have y1:=B1.2.1 1 _ rfl;have y2:=B1.2.1 2 _ rfl;have y3:=B1.2.1 3 _ rfl;have y4:=B1.2.1 4 _ rfl;have z0:W.cell? ⟨w+1+1,0,none⟩=some (i_ 0):=B2.2.1 0 _ rfl;have z1:W.cell? ⟨w+1+1,1,none⟩=some (i_ 0):=B2.2.1 1 _ rfl;have z2:W.cell? ⟨w+1+1,2,none⟩=some (.string ⟨#[]⟩):=B2.2.1 2 _ rfl;have z3:W.cell? ⟨w+1+1,3,none⟩=some (i_ 0):=B2.2.1 3 _ rfl;have z4:W.cell? ⟨w+1+1,4,none⟩=some (.slice none 0 0):=B2.2.1 4 _ rfl;have zf:∀ j,W.frozen? ⟨w+1+1,j,none⟩=false:=B2.2.2;have A3:(w:Nat)+1+1<W:=by omega
 clear B0 B1 B2 A1 h1 h2 hX hW A2;go_enter func117,ntmps117;go_upto_region 1 with fail;rw [←A0];clear A0;go_wp2;refine retC results117 (by rfl) underlying209 rfl k_ (cs:=[_,_,_,_,_]) ((((((HB.o.set 0 _).set 1 _).set 2 _).set 3 _).set 4 _).alloc _).whole rfl ?_;have hb:Below w w ((((((W.setCell ⟨w+1+1,0,none⟩ (i_ 5)).setCell ⟨w+1+1,1,none⟩ (i_ 0)).setCell ⟨w+1+1,2,none⟩ (.string ⟨#[]⟩)).setCell ⟨w+1+1,3,none⟩ (i_ op)).setCell ⟨w+1+1,4,none⟩ (.slice (some (a_ W)) 2 2)).alloc (.cells (exL kd n s o A m c ++ exL kd' n' s' o' A' m' c').toArray 209)):=(bel HW.o);refine ⟨⟨_,_,_,_,_,_,_,rfl,q_ ⟨vts_ex (SlP.two (us:=exL kd n s o A m c) (vs:=exL kd' n' s' o' A' m' c') (Bx.new' (exL kd n s o A m c ++ exL kd' n' s' o' A' m' c') 209 t_) HX.o d_ (H1.o.up (Kp.of_below hb) (l_)) P1.o (H2.o.up (Kp.of_below hb) (l_)) P2.o),pE_ex x_ (fun _=>l_) d_⟩⟩,hb⟩
theorem set_m (X:NP) (t:ByteArray) (kd n:Int) (s:ByteArray) (o:Int) (A:OA) (m c:Nat) (w:World) (ht:t.size<=100) (h1:ExV w X dE kd n s o A m c) (hX:∀ k,X k->k<w) :
  Calls prog 116 #[.string t,.agg #[i_ kd,i_ n,.string s,i_ o,.slice A m c]] w fun e w'=>RS X 0 e w'/\Below w w w':=by
 obtain ⟨W,hW,A1,A2,B0,B2⟩:=co_ w (exL kd n s o A m c) 209 [i_ 0,.string ⟨#[]⟩,.string ⟨#[]⟩,i_ 0,i_ 0,.slice none 0 0,.slice none 0 0,.slice none 0 0] 212;have HB:=q_ B2;have HW:=q_ A1;have H1:=q_ h1.1;have P1:=q_ h1.2;have HX:=h_ (¬X W) (fun h=>by have:=hX _ h;omega);have hz:(w:Nat)+1<W:=by omega
 have A3:¬(w:Nat)+1=W:=by omega
 have A0:W=(w.alloc (.cells #[i_ kd,i_ n,.string s,i_ o,.slice A m c] 209)).alloc (.cells #[i_ 0,.string ⟨#[]⟩,.string ⟨#[]⟩,i_ 0,i_ 0,.slice none 0 0,.slice none 0 0,.slice none 0 0] 212):=hW;have HT:=q_ ht;have x0:=B0.2.1 0 _ rfl;have x1:=B0.2.1 1 _ rfl;have x2:=B0.2.1 2 _ rfl;have x3:=B0.2.1 3 _ rfl;have x4:=B0.2.1 4 _ rfl;have z0:=B2.2.1 0 _ rfl;have z1:=B2.2.1 1 _ rfl;have z2:=B2.2.1 2 _ rfl;have z3:=B2.2.1 3 _ rfl;have z4:=B2.2.1 4 _ rfl;have z5:=B2.2.1 5 _ rfl;have z6:=B2.2.1 6 _ rfl;have z7:=B2.2.1 7 _ rfl;have zf:=B2.2.2;clear B0 B2 A1 h1 hX hW A2 ht;go_enter func116,ntmps116;go_upto_region 1 with fail;rw [←A0];clear A0;go_wp2;refine retC results116 (by rfl) underlying212 rfl k_ (cs:=[_,_,_,_,_,_,_,_]) (((((((((HB.o.set 0 _).set 1 _).set 2 _).set 3 _).set 4 _).set 5 _).set 6 _).set 7 _).alloc _).whole rfl ?_;have hb:Below w w (((((((((W.setCell (a_ (w+1)) (i_ 1)).setCell (f_ (w+1) 1) (.string t)).setCell (f_ (w+1) 2) (.string ⟨#[]⟩)).setCell (f_ (w+1) 3) (i_ 0)).setCell (f_ (w+1) 4) (i_ 0)).setCell (f_ (w+1) 5) (.slice (some (a_ W)) 1 1)).setCell (f_ (w+1) 6) (.slice none 0 0)).setCell (f_ (w+1) 7) (.slice none 0 0)).alloc (.cells (exL kd n s o A m c).toArray 209)):=(bel HW.o);refine ⟨⟨_,_,_,_,_,_,_,_,_,_,_,_,_,_,rfl,q_ ⟨eb_ (SlP.one (Bx.new' (exL kd n s o A m c) 209 t_) HX.o d_ (H1.o.up (Kp.of_below hb) (l_)) P1.o),pS_st x_ x_ x_ HT.o d_⟩⟩,hb⟩
end Go.Proofs.YtfolidlmgfhkiaaGreat
namespace Go.Proofs.YtfolidlmgfhkiaaGreat
open Go.RowKit
structure XE where
 x:Nat->Prop
 e:World->Prop
abbrev x1 (X:NP):XE:=⟨X,fun _=>True⟩
instance:CoeFun XE (fun _=>Nat->Prop):=⟨XE.x⟩
instance:CoeOut XE (NP):=⟨XE.x⟩
structure SK (X:XE) where
 p:World->Value->Prop
 st:∀ w w' v,Kp X.x w w'->(X.e w->X.e w')->p w v->p w' v
def kAny (X:XE):SK X:=⟨fun _ _=>True,fun _ _ _ _ _ _=>trivial⟩
def RnK (P:Program) (Q:Exit->Act->World->Prop) (X:XE) (Inv:World->Prop) (κ:SK X) (o:Oper) (a:Act) (w:World):Prop:=∀ K:Act->World->Prop,(∀ v w',Kp X.x w w'->(X.e w->X.e w')->Inv w'->κ.p w' v->K (a.put o.dst v) w')->o.wp P a w K Q
def dsts (ops:Array Oper):List Nat:=ops.toList.filterMap (·.dst)
def wfOps (ops:Array Oper) (N:Nat):Bool:=(List.range ops.size).all fun i=>match ops[i]? with
 | none=>true
 | some o=>o.guard.isNone && o.after.toList.all (fun e=>decide (e.on<i)) && (match o.dst with | none=>true | some t=>decide (t<N) && (List.range ops.size).all fun j=>j == i || ((ops[j]?).bind (·.dst)) != some t)
section
variable {P:Program} {ops:Array Oper} {Q:Exit->Act->World->Prop} {X:XE} {Inv:World->Prop} {ks:Nat->SK X} {a0 a:Act} {w w':World} {listed:Array Bool}
structure SI (ops:Array Oper) (ks:Nat->SK X) (Inv:World->Prop) (a0:Act) (listed:Array Bool) (a:Act) (w:World):Prop where
 inv:Inv w
 sz:a.tmps.size=a0.tmps.size
 df:a.defers=a0.defers
 out:∀ t,t ∉ dsts ops->a.tmps.getD t undef=a0.tmps.getD t undef
 ok:∀ (i:Nat) (o:Oper) (t:Nat),listed.getD i true=true->ops[i]?=some o->o.dst=some t->(ks i).p w (a.tmps.getD t undef)
theorem wf_at {N i:Nat} {o:Oper} (h:wfOps ops N=true) (ho:ops[i]?=some o):o.guard=none/\(∀ e ∈ o.after,e.on<i)/\∀ t,o.dst=some t->t<N/\∀ (j:Nat) (oj:Oper),ops[j]?=some oj->oj.dst=some t->j=i:=by
 have hi:=(Array.getElem?_eq_some_iff.1 ho).1;have h1:=List.all_eq_true.1 h i (List.mem_range.2 hi);rw [ho] at h1;simp only [Bool.and_eq_true,Option.isNone_iff_eq_none] at h1;refine ⟨h1.1.1,fun e he=>?_,fun t ht=>?_⟩
 ·have:=List.all_eq_true.1 h1.1.2 e (by rwa [←Array.mem_def]);exact of_decide_eq_true this
 have h2:=h1.2;rw [ht] at h2;simp only [Bool.and_eq_true,decide_eq_true_eq] at h2;refine ⟨h2.1,fun j oj hj hd=>?_⟩;have A0:=(Array.getElem?_eq_some_iff.1 hj).1;have h3:=List.all_eq_true.1 h2.2 j (List.mem_range.2 A0);rw [hj] at h3;simp only [Option.bind_some,hd,Bool.or_eq_true,beq_iff_eq,bne_self_eq_false,Bool.false_eq_true,or_false] at h3;exact h3
theorem getD_putK {a:Act} {d t:Nat} {v:Value} (hd:d<a.tmps.size):(a.put (some d) v).tmps.getD t undef=if t=d then v else a.tmps.getD t undef:=by
 show (a.tmps.setIfInBounds d v).getD t undef=_
 rw [Array.getD_eq_getD_getElem?,Array.getElem?_setIfInBounds,Array.getD_eq_getD_getElem?];by_cases h:t=d
 ·subst h;rw [if_pos rfl,if_pos rfl,if_pos hd];rfl
 rw [if_neg (fun e=>h e.symm),if_neg h]
theorem SI.step {i:Nat} {o:Oper} {v:Value} (h:SI ops ks Inv a0 listed a w) (hw:wfOps ops a0.tmps.size=true) (ho:ops[i]?=some o) (hk:Kp X.x w w') (he:X.e w->X.e w') (hi:Inv w') (hv:(ks i).p w' v):SI ops ks Inv a0 (listed.setIfInBounds i true) (a.put o.dst v) w':=by
 obtain ⟨hg,ha,hd⟩:=wf_at hw ho;cases hdst:o.dst with
 | none =>
  refine ⟨hi,h.sz,h.df,h.out,fun j oj t hj A0 ht=>?_⟩;show (ks j).p w' (a.tmps.getD t undef)
  by_cases hji:j=i
  ·subst hji;rw [ho] at A0;injection A0 with A0;subst A0;rw [hdst] at ht;cases ht
  rw [getD_set_ne true (Ne.symm hji)] at hj;exact (ks j).st w w' _ hk he (h.ok j oj t hj A0 ht)
 | some d =>
  obtain ⟨A1,A3⟩:=hd d hdst;rw [←h.sz] at A1;have A2:d ∈ dsts ops:=List.mem_filterMap.2 ⟨o,by rw [←Array.mem_def];exact Array.mem_of_getElem? ho,hdst⟩;refine ⟨hi,?_,h.df,fun t ht=>?_,fun j oj t hj A0 ht=>?_⟩
  ·show (a.tmps.setIfInBounds d v).size=_
   rw [Array.size_setIfInBounds];exact h.sz
  ·rw [getD_putK A1,if_neg (fun e=>ht (by rw [e];exact A2))];exact h.out t ht
  rw [getD_putK A1];by_cases hji:j=i
  ·subst hji;rw [ho] at A0;injection A0 with A0;subst A0;rw [hdst] at ht;injection ht with ht;subst ht;rw [if_pos rfl];exact hv
  by_cases htd:t=d
  ·subst htd;exact absurd (A3 j oj A0 ht) hji
  rw [if_neg htd];rw [getD_set_ne true (Ne.symm hji)] at hj;exact (ks j).st w w' _ hk he (h.ok j oj t hj A0 ht)
def StepK (P:Program) (ops:Array Oper) (Q:Exit->Act->World->Prop) (Inv:World->Prop) (ks:Nat->SK X) (a0:Act):Prop:=∀ (i:Nat) (o:Oper),ops[i]?=some o->∀ a w,Inv w->(∀ t,t ∉ dsts ops->a.tmps.getD t undef=a0.tmps.getD t undef) →
 (∀ j:Nat,o.after.toList.any (fun e=>Region.binds .any e && e.on == j)=true->∀ (oj:Oper) (t:Nat),ops[j]?=some oj->oj.dst=some t->(ks j).p w (a.tmps.getD t undef))->RnK P Q X Inv (ks i) o a w
theorem count_drop {p p':Nat->Bool} {i:Nat} (h1:p i=true) (h2:p' i=false) (h3:∀ j,j≠i->p' j=p j):∀ n,i<n->(List.range n).countP p'+1=(List.range n).countP p
 | 0,h=>by omega
 | n+1,h=>by
  rw [List.range_succ,List.countP_append,List.countP_append,List.countP_singleton,List.countP_singleton];by_cases e:i=n
  ·subst e;rw [h1,h2];have:(List.range i).countP p'=(List.range i).countP p:=List.countP_congr (fun j hj=>by rw [h3 j (by have:=List.mem_range.1 hj;omega)]);simp [this]
  rw [h3 n (fun e2=>e e2.symm)];have:=count_drop h1 h2 h3 n o_;omega
def unl (n:Nat) (listed:Array Bool):Nat:=(List.range n).countP (fun i=>!listed.getD i true)
theorem unl_zero {n:Nat} (h:unl n listed=0):∀ i,i<n->listed.getD i true=true:=fun i hi=>by
 have:=List.countP_eq_zero.1 h i (List.mem_range.2 hi)
 simpa using this
theorem unl_step {n i:Nat} (hi:i<n) (hl:listed.getD i true=false):unl n (listed.setIfInBounds i true)+1=unl n listed:=by
 have hsz:i<listed.size:=by
  rcases Nat.lt_or_ge i listed.size with h | h
  ·exact h
  rw [Array.getD_eq_getD_getElem?,Array.getElem?_eq_none h] at hl;cases hl
 refine count_drop (i:=i) (by rw [hl];rfl) ?_ (fun j hj=>?_) n hi
 ·rw [Array.getD_eq_getD_getElem?,Array.getElem?_setIfInBounds,if_pos rfl,if_pos hsz];rfl
 rw [Array.getD_eq_getD_getElem?,Array.getD_eq_getD_getElem?,Array.getElem?_setIfInBounds,if_neg (fun e=>hj e.symm)]
theorem all_done (hw:wfOps ops a0.tmps.size=true) (hz:listed.size=ops.size) (hr:Region.ready .any ops listed=[]):∀ i,i<ops.size->listed.getD i true=true:=fun i=>by
 induction i using Nat.strongRecOn with
 | ind i ih =>
  intro hi;cases hl:listed.getD i true
  ·exfalso;have hm:i ∈ Region.ready .any ops listed:=mem_ready.2 ⟨hl,ops[i],Array.getElem?_eq_getElem hi,fun e he _=>by
    have h1:=(wf_at hw (Array.getElem?_eq_getElem hi)).2.1 e he
    have h2:=ih e.on h1 o_
    rw [Array.getD_eq_getD_getElem?] at h2 ⊢
    have h3:e.on<listed.size:=by omega
    rw [Array.getElem?_eq_getElem h3] at h2 ⊢
    exact h2⟩
   rw [hr] at hm;cases hm
  rfl
theorem any_k (hw:wfOps ops a0.tmps.size=true) (hs:StepK P ops Q Inv ks a0) (fin:∀ a w,Inv w->a.tmps.size=a0.tmps.size->a.defers=a0.defers->(∀ t,t ∉ dsts ops->a.tmps.getD t undef=a0.tmps.getD t undef)->(∀ (i:Nat) (o:Oper) (t:Nat),ops[i]?=some o->o.dst=some t->(ks i).p w (a.tmps.getD t undef))->Q .normal a w) :
  ∀ (fuel:Nat) (listed:Array Bool) (a:Act) (w:World),SI ops ks Inv a0 listed a w->listed.size=ops.size->unl ops.size listed<=fuel->wpAny P .any ops Q fuel listed a w:=by
 have done:∀ (listed:Array Bool) (a:Act) (w:World),SI ops ks Inv a0 listed a w->(∀ i,i<ops.size->listed.getD i true=true)->Q .normal a w:=fun listed a w h ha =>
  fin a w h.inv h.sz h.df h.out (fun i o t ho ht=>h.ok i o t (ha i (Array.getElem?_eq_some_iff.1 ho).1) ho ht)
 intro fuel
 induction fuel with
 | zero =>
  intro listed a w h hz hu;have A0:=unl_zero (n:=ops.size) (listed:=listed) o_;refine ⟨?_,done listed a w h A0⟩;cases hr:Region.ready .any ops listed with
  | nil=>rfl
  | cons x xs =>
   exfalso;obtain ⟨h1,o,ho,_⟩:=mem_ready.1 (show x ∈ Region.ready .any ops listed from by rw [hr];exact .head _);rw [A0 x (Array.getElem?_eq_some_iff.1 ho).1] at h1;cases h1
 | succ fuel ih =>
  intro listed a w h hz hu;refine ⟨fun hr=>done listed a w h (all_done hw hz hr),fun i hi=>?_⟩;obtain ⟨h1,o,ho,h2⟩:=mem_ready.1 hi;have A4:=(Array.getElem?_eq_some_iff.1 ho).1;obtain ⟨hg,_,_⟩:=wf_at hw ho;refine wpOp_step ho (fun K hK=>?_);simp only [Region.wanted,hg,if_true];refine hs i o ho a w h.inv h.out (fun j hj oj t A5 ht=>h.ok j oj t ?_ A5 ht) K (fun v w' hk he A3 hv=>hK _ _ ?_)
  ·rw [List.any_eq_true] at hj;obtain ⟨e,he,A1⟩:=hj;rw [←Array.mem_def] at he;obtain ⟨A2,A1⟩:Region.binds .any e=true/\e.on=j:=by simpa using A1
   subst A1;have h3:=h2 e he A2;have h4:e.on<listed.size:=by
    rcases Nat.lt_or_ge e.on listed.size with h | h
    ·exact h
    rw [Array.getD_eq_getD_getElem?,Array.getElem?_eq_none h] at h3;cases h3
   rw [Array.getD_eq_getD_getElem?,Array.getElem?_eq_getElem h4] at h3 ⊢;exact h3
  have h5:=unl_step (n:=ops.size) A4 h1;exact ih _ _ _ (h.step hw ho hk he A3 hv) (by rw [Array.size_setIfInBounds];exact hz) o_
theorem dn_ {id:Nat} (hm:P.follows .mixedOrders=true) (hw:wfOps ops a0.tmps.size=true) (h0:Inv w.drew) (hs:StepK P ops Q Inv ks a0) (fin:∀ a w,Inv w->a.tmps.size=a0.tmps.size->a.defers=a0.defers->(∀ t,t ∉ dsts ops->a.tmps.getD t undef=a0.tmps.getD t undef)->(∀ (i:Nat) (o:Oper) (t:Nat),ops[i]?=some o->o.dst=some t->(ks i).p w (a.tmps.getD t undef))->Q .normal a w) :
  (Code.region id ops true).wp P Q a0 w:=by
 refine wp_region_any hm (any_k hw hs fin ops.size _ a0 _ ⟨h0,rfl,rfl,fun _ _=>rfl,fun i o t hl ho _=>?_⟩ t_ ?_)
 ·exfalso;have A0:=(Array.getElem?_eq_some_iff.1 ho).1;rw [Array.getD_eq_getD_getElem?,Array.getElem?_replicate,if_pos A0] at hl;cases hl
 unfold unl;have:=List.countP_le_length (p:=fun i=>!(Array.replicate ops.size false).getD i true) (l:=List.range ops.size)
 simpa using this
theorem list_k {id:Nat} (hw:wfOps ops a0.tmps.size=true) (hs:StepK P ops Q Inv ks a0) (fin:∀ a w,Inv w->a.tmps.size=a0.tmps.size->a.defers=a0.defers->(∀ t,t ∉ dsts ops->a.tmps.getD t undef=a0.tmps.getD t undef)->(∀ (i:Nat) (o:Oper) (t:Nat),ops[i]?=some o->o.dst=some t->(ks i).p w (a.tmps.getD t undef))->Q .normal a w) :
  ∀ (rest:List Oper) (k:Nat) (listed:Array Bool) (a:Act) (w:World),ops.toList.drop k=rest->listed.size=ops.size->(∀ j,j<ops.size->(listed.getD j true=true↔j<k))->SI ops ks Inv a0 listed a w->wpList P ops Q rest a w:=by
 intro rest
 induction rest with
 | nil =>
  intro k listed a w hd hz hl h;have hk:ops.size<=k:=by
   have:=congrArg List.length hd;simp at this;omega
  exact fin a w h.inv h.sz h.df h.out (fun i o t ho ht=>h.ok i o t ((hl i (Array.getElem?_eq_some_iff.1 ho).1).2 (by have:=(Array.getElem?_eq_some_iff.1 ho).1;omega)) ho ht)
 | cons o rest ih =>
  intro k listed a w hd hz hl h;have ho:ops[k]?=some o:=by
   have:(ops.toList.drop k)[0]?=some o:=by rw [hd];rfl
   rw [List.getElem?_drop] at this
   simpa using this
  have A4:=(Array.getElem?_eq_some_iff.1 ho).1;obtain ⟨hg,A0,_⟩:=wf_at hw ho;refine wpList_plain hg (fun K hK=>?_);refine hs k o ho a w h.inv h.out (fun j hj oj t A3 ht=>h.ok j oj t ?_ A3 ht) K (fun v w' hk he A2 hv=>hK _ _ ?_)
  ·rw [List.any_eq_true] at hj;obtain ⟨e,he,A1⟩:=hj;rw [←Array.mem_def] at he;have A1:e.on=j:=(by simpa using A1:Region.binds .any e=true/\e.on=j).2;subst A1;exact (hl _ (by have:=A0 e he;omega)).2 (A0 e he)
  refine ih (k+1) (listed.setIfInBounds k true) _ _ ?_ (by rw [Array.size_setIfInBounds];exact hz) (fun j hj=>?_) (h.step hw ho hk he A2 hv)
  ·rw [←List.tail_drop,hd];rfl
  rw [Array.getD_eq_getD_getElem?,Array.getElem?_setIfInBounds];by_cases e:k=j
  ·subst e;rw [if_pos rfl,if_pos o_];simp
  rw [if_neg e,←Array.getD_eq_getD_getElem?,hl j hj];omega
theorem bf_ {id:Nat} (hw:wfOps ops a0.tmps.size=true) (h0:Inv w) (hs:StepK P ops Q Inv ks a0) (fin:∀ a w,Inv w->a.tmps.size=a0.tmps.size->a.defers=a0.defers->(∀ t,t ∉ dsts ops->a.tmps.getD t undef=a0.tmps.getD t undef)->(∀ (i:Nat) (o:Oper) (t:Nat),ops[i]?=some o->o.dst=some t->(ks i).p w (a.tmps.getD t undef))->Q .normal a w) :
  (Code.region id ops false).wp P Q a0 w:=by
 refine wp_region_list (list_k (id:=id) hw hs fin ops.toList 0 (Array.replicate ops.size false) a0 w rfl t_ (fun j hj=>?_) ⟨h0,rfl,rfl,fun _ _=>rfl,fun i o t hl ho _=>?_⟩)
 ·rw [Array.getD_eq_getD_getElem?,Array.getElem?_replicate,if_pos hj];simp
 exfalso;have A0:=(Array.getElem?_eq_some_iff.1 ho).1;rw [Array.getD_eq_getD_getElem?,Array.getElem?_replicate,if_pos A0] at hl;cases hl
theorem foldl_put (g:Nat->Value):∀ (D:List Nat) (a0:Act),(∀ t ∈ D,t<a0.tmps.size)->(D.foldl (fun b t=>b.put (some t) (g t)) a0).tmps.size=a0.tmps.size/\(D.foldl (fun b t=>b.put (some t) (g t)) a0).defers=a0.defers/\∀ t,(D.foldl (fun b t=>b.put (some t) (g t)) a0).tmps.getD t undef=if t ∈ D then g t else a0.tmps.getD t undef
 | [],a0,_=>⟨rfl,rfl,fun t=>by simp⟩
 | d :: D,a0,hD=>by
  have hs:(a0.put (some d) (g d)).tmps.size=a0.tmps.size:=by show (a0.tmps.setIfInBounds d (g d)).size=_;rw [Array.size_setIfInBounds]
  obtain ⟨h1,h2,h3⟩:=foldl_put g D (a0.put (some d) (g d)) (fun t ht=>by rw [hs];exact hD t (.tail _ ht));refine ⟨h1.trans hs,h2,fun t=>?_⟩;rw [List.foldl_cons,h3,getD_putK (hD d (.head _))];by_cases e:t ∈ D
  ·rw [if_pos e,if_pos (.tail _ e)]
  rw [if_neg e];by_cases e2:t=d
  ·subst e2;rw [if_pos rfl,if_pos (.head _)]
  rw [if_neg e2,if_neg (fun h=>by rcases List.mem_cons.1 h with h | h;exact e2 h;exact e h)]
theorem do_ {a a0:Act} {D:List Nat} {g:Nat->Value} (hsz:a.tmps.size=a0.tmps.size) (hdf:a.defers=a0.defers) (hD:∀ t ∈ D,t<a0.tmps.size) (hout:∀ t,t ∉ D->a.tmps.getD t undef=a0.tmps.getD t undef) (hg:∀ t,a.tmps.getD t undef=g t):a=D.foldl (fun b t=>b.put (some t) (g t)) a0:=by
 obtain ⟨h1,h2,h3⟩:=foldl_put g D a0 hD;generalize D.foldl (fun b t=>b.put (some t) (g t)) a0=r at h1 h2 h3;obtain ⟨at_,ad⟩:=a;obtain ⟨rt,rd⟩:=r;have e1:ad=rd:=hdf.trans h2.symm;have e2:at_=rt:=by
  apply Array.ext (hsz.trans h1.symm);intro i A0 A1;have k1:=hout i;have k2:=hg i;have k3:=h3 i;simp only [Array.getD_eq_getD_getElem?,Array.getElem?_eq_getElem A0,Array.getElem?_eq_getElem A1,Option.getD_some] at k1 k2 k3;by_cases e:i ∈ D
  ·rw [if_pos e] at k3;rw [k2,k3]
  rw [if_neg e] at k3;rw [k1 e,k3]
 rw [e1,e2]
end
end Go.Proofs.YtfolidlmgfhkiaaGreat
namespace Go.Proofs.YtfolidlmgfhkiaaGreat
open Go.RowKit Go.Proofs.Tryz
section
variable {X:XE} {w w':World}
structure IC (d b lp:Nat) (X:XE) (Inv:World->Prop):Prop where
 ok:∀ w,Inv w->Mk d b lp w
 zx:∀ k,Zm d b k->X k
 lt:∀ w,Inv w->∀ k,X k->k<w
 up:∀ w w',Inv w->Mk d b lp w'->Kp (Zm d b) w w'->Inv w'
 ex:∀ w w',Inv w->Kp (Zm d b) w w'->X.e w->X.e w'
theorem IC.below {d b lp:Nat} {Inv:World->Prop} (h:IC d b lp X Inv) (hI:Inv w) (hb:Below w w w'):Inv w':=h.up w w' hI ((h.ok w hI).below hb) (.of_below hb)
def kV (X:XE) (v:Value):SK X:=⟨fun _ u=>u=v,fun _ _ _ _ _ h=>h⟩
def kNat (X:XE) (n:Nat):SK X:=⟨fun _ u=>∃ r:Nat,r<n/\u=i_ r,fun _ _ _ _ _ h=>h⟩
def kInt (X:XE):SK X:=⟨fun _ u=>∃ r:Int,u=i_ r,fun _ _ _ _ _ h=>h⟩
def kStr (X:XE):SK X:=⟨fun _ u=>∃ s:ByteArray,u=.string s/\s.size<=100,fun _ _ _ _ _ h=>h⟩
def bv_ (X:XE) (n:Nat):SK X:=⟨fun w u=>∃ g,u=.slice (some (a_ g)) n n/\g<w/\¬X g/\∀ i,i<n->∃ s:ByteArray,w.cell? (f_ g i)=some (.string s)/\s.size<=100,fun w w' u hk _ ⟨g,e,hg,hX,hc⟩=>⟨g,e,lt_ hg hk.size,hX,fun i hi=>by
 obtain ⟨s,hs,hz⟩:=hc i hi
 exact ⟨s,(hk.cell hg hX).trans hs,hz⟩⟩⟩
def kInts (X:XE) (n:Nat):SK X:=⟨fun w u=>∃ g,u=.slice (some (a_ g)) n n/\g<w/\¬X g/\∀ i,i<n->∃ s:Int,w.cell? (f_ g i)=some (i_ s)/\s≠3/\s≠5/\s≠6,fun w w' u hk _ ⟨g,e,hg,hX,hc⟩=>⟨g,e,lt_ hg hk.size,hX,fun i hi=>by
 obtain ⟨s,hs,hz⟩:=hc i hi
 exact ⟨s,(hk.cell hg hX).trans hs,hz⟩⟩⟩
def kInts' (X:XE) (n:Nat):SK X:=⟨fun w u=>∃ g,u=.slice (some (a_ g)) n n/\g<w/\¬X g/\∀ i,i<n->∃ s:Int,w.cell? (f_ g i)=some (i_ s),fun w w' u hk _ ⟨g,e,hg,hX,hc⟩=>⟨g,e,lt_ hg hk.size,hX,fun i hi=>by
 obtain ⟨s,hs⟩:=hc i hi
 exact ⟨s,(hk.cell hg hX).trans hs⟩⟩⟩
def dh_ (X:XE):SK X:=⟨fun w u=>∃ g o,∃ s:ByteArray,u=.pointer (some (f_ g o))/\g<w/\¬X g/\w.cell? (f_ g o)=some (.string s)/\s.size<=100,fun w w' u hk _ ⟨g,o,s,e,hg,hX,hc,hz⟩=>⟨g,o,s,e,lt_ hg hk.size,hX,(hk.cell hg hX).trans hc,hz⟩⟩
def kPInt (X:XE):SK X:=⟨fun w u=>∃ g o,∃ s:Int,u=.pointer (some (f_ g o))/\g<w/\¬X g/\w.cell? (f_ g o)=some (i_ s)/\s≠3/\s≠5/\s≠6,fun w w' u hk _ ⟨g,o,s,e,hg,hX,hc,hz⟩=>⟨g,o,s,e,lt_ hg hk.size,hX,(hk.cell hg hX).trans hc,hz⟩⟩
def kPInt' (X:XE):SK X:=⟨fun w u=>∃ g o,∃ s:Int,u=.pointer (some (f_ g o))/\g<w/\¬X g/\w.cell? (f_ g o)=some (i_ s),fun w w' u hk _ ⟨g,o,s,e,hg,hX,hc⟩=>⟨g,o,s,e,lt_ hg hk.size,hX,(hk.cell hg hX).trans hc⟩⟩
def kKind (X:XE):SK X:=⟨fun _ u=>∃ s:Int,u=i_ s/\s≠3/\s≠5/\s≠6,fun _ _ _ _ _ h=>h⟩
theorem ExV.kp {d:Nat} {kd n:Int} {s:ByteArray} {op:Int} {A:OA} {m c:Nat} (h:ExV w X d kd n s op A m c) (hk:Kp X w w'):ExV w' X d kd n s op A m c:=⟨h.1.up hk (l_),h.2⟩
def kEx (X:XE) (d:Nat):SK X:=⟨fun w u=>∃ (kd n:Int) (s:ByteArray) (op:Int) (A:OA) (m c:Nat),u=.agg #[i_ kd,i_ n,.string s,i_ op,.slice A m c]/\ExV w X d kd n s op A m c,fun w w' u hk _ ⟨kd,n,s,op,A,m,c,e,h⟩=>⟨kd,n,s,op,A,m,c,e,h.kp hk⟩⟩
def StV (w:World) (X:XE) (d:Nat) (kd:Int) (s f:ByteArray) (n op:Int) (A:OA) (m c:Nat) (B:OA) (m1 c1:Nat) (C:OA) (m2 c2:Nat):Prop:=VTs w X 20 (al_ d) (stL kd s f n op A m c B m1 c1 C m2 c2)/\pS (stL kd s f n op A m c B m1 c1 C m2 c2)
def kSt (X:XE) (d:Nat):SK X:=⟨fun w u=>∃ (kd:Int) (s f:ByteArray) (n op:Int) (A:OA) (m c:Nat) (B:OA) (m1 c1:Nat) (C:OA) (m2 c2:Nat),u=.agg #[i_ kd,.string s,.string f,i_ n,i_ op,.slice A m c,.slice B m1 c1,.slice C m2 c2]/\StV w X d kd s f n op A m c B m1 c1 C m2 c2,
 fun w w' u hk _ ⟨kd,s,f,n,op,A,m,c,B,m1,c1,C,m2,c2,e,h⟩=>⟨kd,s,f,n,op,A,m,c,B,m1,c1,C,m2,c2,e,h.1.up hk (l_),h.2⟩⟩
def kExs (X:XE) (d n:Nat):SK X:=⟨fun w u=>∃ A c,u=.slice A n c/\SlP w X 20 pE (ay_ d) A n c,fun w w' u hk _ ⟨A,c,e,h⟩=>⟨A,c,e,h.kept hk (fun _ _ h=>h) (l_)⟩⟩
def kSts (X:XE) (d q:Nat):SK X:=⟨fun w u=>∃ A n c,u=.slice A n c/\n<=q/\SlP w X 20 pS (al_ d) A n c,fun w w' u hk _ ⟨A,n,c,e,hq,h⟩=>⟨A,n,c,e,hq,h.kept hk (fun _ _ h=>h) (l_)⟩⟩
end
section
variable {P:Program} {Q:Exit->Act->World->Prop} {X:XE} {Inv:World->Prop} {κ:SK X} {o:Oper} {a:Act} {w:World}
theorem bt_ {v:Value} (hr:(execOp a.eval o).run P w=.ok (.value v) w) (hv:κ.p w v) (hI:Inv w):RnK P Q X Inv κ o a w:=fun K hK=>by
 unfold Oper.wp;rw [hr];exact hK _ _ (Kp.refl _ _) (fun h=>h) hI hv
theorem rk_to {v:Value} {w':World} (hr:(execOp a.eval o).run P w=.ok (.value v) w') (hk:Kp X w w') (he:X.e w->X.e w') (hv:κ.p w' v) (hI:Inv w'):RnK P Q X Inv κ o a w:=fun K hK=>by
 unfold Oper.wp;rw [hr];exact hK _ _ hk he hI hv
theorem ck_ {f:Nat} {args:Array Value} (hr:(execOp a.eval o).run P w=.ok (.enter f args) w) (hc:Calls P f args w (fun e w'=>∃ v,e=.returned v/\Kp X w w'/\(X.e w->X.e w')/\Inv w'/\κ.p w' v)):RnK P Q X Inv κ o a w:=fun K hK=>by
 unfold Oper.wp;rw [hr];show Calls _ _ _ _ _
 refine hc.mono ?_;rintro e w' ⟨v,rfl,h1,h0,h2,h3⟩;exact hK _ _ h1 h0 h2 h3
theorem bm_ {x:Operand} (ho:o.op=.move x∨o.op=.assign x) (hx:κ.p w (a.eval x)) (hI:Inv w):RnK P Q X Inv κ o a w:=by
 generalize hr:a.eval=r at hx;exact bt_ (v:=r x) (by rw [hr];rcases ho with ho | ho <;> simp [execOp,ho]) hx hI
theorem cc_ {x:Operand} {p:Addr} (ho:o.op=.nilCheck x) (hx:a.eval x=.pointer (some p)) (hI:Inv w):RnK P Q X Inv (kV X (.pointer (some p))) o a w:=by
 generalize hr:a.eval=r at hx;exact bt_ (v:=.pointer (some p)) (by rw [hr];simp [execOp,ho,hx,go_sem]) rfl hI
end
section
variable {Q:Exit->Act->World->Prop} {X:XE} {Inv:World->Prop} {o:Oper} {a:Act} {w:World} {d b lp:Nat}
theorem cb_ {x:Operand} {f:Nat} (hf:f<4) (ho:o.op=.fieldAddr 205 x f) (hx:a.eval x=.pointer (some (a_ b))) (hI:Inv w):RnK prog Q X Inv (kV X (.pointer (some (f_ b f)))) o a w:=by
 generalize hr:a.eval=r at hx;refine bt_ (v:=.pointer (some (f_ b f))) ?_ rfl hI;rw [hr]
 match f,hf with
 | 0,_=>simp [execOp,ho,hx,go_sem]
 | 1,_=>simp [execOp,ho,hx,go_sem]
 | 2,_=>simp [execOp,ho,hx,go_sem]
 | 3,_=>simp [execOp,ho,hx,go_sem]
theorem rk_load {x:Operand} {T:TypeId} {p:Addr} {v:Value} {κ:SK X} (hT:T=3∨T=2∨T=9∨T=45∨T=192∨T=207) (ho:o.op=.load T x) (hx:a.eval x=.pointer (some p)) (hc:w.cell? p=some v) (hv:κ.p w v) (hI:Inv w):RnK prog Q X Inv κ o a w:=by
 generalize hr:a.eval=r at hx;refine bt_ (v:=v) ?_ hv hI;rw [hr];rcases hT with rfl | rfl | rfl | rfl | rfl | rfl <;> simp [execOp,ho,hx,hc,go_sem]
theorem bk_ {x:Operand} (hC:IC d b lp X Inv) (ho:o.op=.load 45 x) (hx:a.eval x=.pointer (some (a_ b))) (hI:Inv w):RnK prog Q X Inv (kV X (pt d)) o a w :=
 rk_load (.inr (.inr (.inr (.inl rfl)))) ho hx (hC.ok w hI).c0 rfl hI
theorem en_ {x:Operand} (ho:o.op=.load 9 x) (hx:(dh_ X).p w (a.eval x)) (hI:Inv w):RnK prog Q X Inv (kStr X) o a w:=by
 obtain ⟨g,q,s,e,hg,hX,hc,hz⟩:=hx;exact rk_load (.inr (.inr (.inl rfl))) ho e hc ⟨s,rfl,hz⟩ hI
theorem rk_lint {x:Operand} (ho:o.op=.load 3 x) (hx:(kPInt X).p w (a.eval x)) (hI:Inv w):RnK prog Q X Inv (kKind X) o a w:=by
 obtain ⟨g,q,s,e,hg,hX,hc,hz⟩:=hx;exact rk_load (.inl rfl) ho e hc ⟨s,rfl,hz⟩ hI
theorem rk_lint' {x:Operand} (ho:o.op=.load 3 x) (hx:(kPInt' X).p w (a.eval x)) (hI:Inv w):RnK prog Q X Inv (kInt X) o a w:=by
 obtain ⟨g,q,s,e,hg,hX,hc⟩:=hx;exact rk_load (.inl rfl) ho e hc ⟨s,rfl⟩ hI
theorem bs_ {x:Operand} {n:Nat} {y:Operand} (hC:IC d b lp X Inv) (ho:o.op=.call { callee:=.value (.func 26),args:=#[x,y],argTypes:=#[45,3] }) (hx:a.eval x=.pointer (some (a_ d))) (hy:a.eval y=i_ n) (h1:1<=n) (hn:n<=1000000) (hI:Inv w):RnK prog Q X Inv (kNat X n) o a w:=by
 have hf:a.eval (.func 26)=.func (.func 26) #[] #[]:=rfl;generalize hr:a.eval=r at hx hy hf;refine ck_ (f:=26) (args:=#[.pointer (some (a_ d)),i_ n]) (by rw [hr];simp [execOp,ho,hx,hy,hf,go_sem]) ((bo_ d n w (hC.ok w hI).dice h1 hn).mono ?_);rintro e w' ⟨q,hq,rfl,ht,_⟩;exact ⟨_,rfl,(ht.kp b).mono (fun k _ hk=>hC.zx k hk),hC.ex w w' hI (ht.kp b),hC.up w w' hI ((hC.ok w hI).thrown ht) (ht.kp b),q,hq,rfl⟩
theorem rk_num {x:Operand} {n:Int} (hC:IC d b lp X Inv) (ho:o.op=.call { callee:=.value (.func 118),args:=#[x],argTypes:=#[2] }) (hx:a.eval x=i_ n) (hI:Inv w):RnK prog Q X Inv (kEx X 0) o a w:=by
 have hf:a.eval (.func 118)=.func (.func 118) #[] #[]:=rfl;generalize hr:a.eval=r at hx hf;refine ck_ (f:=118) (args:=#[i_ n]) (by rw [hr];simp [execOp,ho,hx,hf,go_sem]) ((num_m n w).mono ?_);rintro e w' ⟨rfl,hb⟩;exact ⟨_,rfl,.of_below hb,hC.ex w w' hI (.of_below hb),hC.below hI hb,_,_,_,_,_,_,_,rfl,vts_ex0 _ _ _ _,pE_ex x_ x_ d_⟩
theorem ek_ {x:Operand} (hC:IC d b lp X Inv) (ho:o.op=.call { callee:=.value (.func 119),args:=#[x],argTypes:=#[9] }) (hx:(kStr X).p w (a.eval x)) (hI:Inv w):RnK prog Q X Inv (kEx X 0) o a w:=by
 obtain ⟨s,hs,hz⟩:=hx;have hf:a.eval (.func 119)=.func (.func 119) #[] #[]:=rfl;generalize hr:a.eval=r at hs hf;refine ck_ (f:=119) (args:=#[.string s]) (by rw [hr];simp [execOp,ho,hs,hf,go_sem]) ((name_m s w).mono ?_);rintro e w' ⟨rfl,hb⟩;exact ⟨_,rfl,.of_below hb,hC.ex w w' hI (.of_below hb),hC.below hI hb,_,_,_,_,_,_,_,rfl,vts_ex0 _ _ _ _,pE_ex x_ x_ hz⟩
theorem rk_names (hC:IC d b lp X Inv) (ho:o.op=.call { callee:=.value (.func 167),args:=#[],argTypes:=#[] }) (hI:Inv w):RnK prog Q X Inv (bv_ X 5) o a w:=by
 have hf:a.eval (.func 167)=.func (.func 167) #[] #[]:=rfl;generalize hr:a.eval=r at hf;refine ck_ (f:=167) (args:=#[]) (by rw [hr];simp [execOp,ho,hf,go_sem]) ((names_m w).mono ?_);rintro e w' ⟨rfl,hz,hb,hc⟩;exact ⟨_,rfl,.of_below hb,hC.ex w w' hI (.of_below hb),hC.below hI hb,w,rfl,o_,fun h=>by have:=hC.lt w hI _ h;omega,hc⟩
theorem rk_len {x:Operand} {n:Nat} (ho:o.op=.call { callee:=.builtin .len,args:=#[x],argTypes:=#[188] }) (hx:(bv_ X n).p w (a.eval x)) (hI:Inv w):RnK prog Q X Inv (kV X (i_ n)) o a w:=by
 obtain ⟨g,e,_⟩:=hx;generalize hr:a.eval=r at e;refine bt_ (v:=i_ n) ?_ rfl hI;rw [hr];simp [execOp,ho,e,go_sem]
theorem rk_idx {x y:Operand} {n:Nat} (ho:o.op=.indexAddr 188 x y) (hx:(bv_ X n).p w (a.eval x)) (hy:(kNat X n).p w (a.eval y)) (hI:Inv w):RnK prog Q X Inv (dh_ X) o a w:=by
 obtain ⟨g,e,hg,hX,hc⟩:=hx;obtain ⟨i,hi,e2⟩:=hy;obtain ⟨s,hs,hz⟩:=hc i hi;generalize hr:a.eval=r at e e2;refine bt_ (v:=.pointer (some (f_ g i))) ?_ ⟨g,i,s,rfl,hg,hX,hs,hz⟩ hI;rw [hr];have A0:(i:Int)<(n:Int):=by omega
 simp [execOp,ho,e,e2,A0,go_sem]
theorem rk_idxi {x y:Operand} {n:Nat} (ho:o.op=.indexAddr 30 x y) (hx:(kInts X n).p w (a.eval x)) (hy:(kNat X n).p w (a.eval y)) (hI:Inv w):RnK prog Q X Inv (kPInt X) o a w:=by
 obtain ⟨g,e,hg,hX,hc⟩:=hx;obtain ⟨i,hi,e2⟩:=hy;obtain ⟨s,hs,hz⟩:=hc i hi;generalize hr:a.eval=r at e e2;refine bt_ (v:=.pointer (some (f_ g i))) ?_ ⟨g,i,s,rfl,hg,hX,hs,hz⟩ hI;rw [hr];have A0:(i:Int)<(n:Int):=by omega
 simp [execOp,ho,e,e2,A0,go_sem]
theorem rk_idxi' {x y:Operand} {n:Nat} (ho:o.op=.indexAddr 30 x y) (hx:(kInts' X n).p w (a.eval x)) (hy:(kNat X n).p w (a.eval y)) (hI:Inv w):RnK prog Q X Inv (kPInt' X) o a w:=by
 obtain ⟨g,e,hg,hX,hc⟩:=hx;obtain ⟨i,hi,e2⟩:=hy;obtain ⟨s,hs⟩:=hc i hi;generalize hr:a.eval=r at e e2;refine bt_ (v:=.pointer (some (f_ g i))) ?_ ⟨g,i,s,rfl,hg,hX,hs⟩ hI;rw [hr];have A0:(i:Int)<(n:Int):=by omega
 simp [execOp,ho,e,e2,A0,go_sem]
end
end Go.Proofs.YtfolidlmgfhkiaaGreat
