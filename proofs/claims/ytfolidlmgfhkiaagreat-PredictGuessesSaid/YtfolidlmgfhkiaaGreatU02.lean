/- Lemmas on functions of the program, under the conditions that each states. -/
import Derived.Test.YtfolidlmgfhkiaaGreatU01
import Derived.Orders
import Derived.ArgAppend
set_option linter.unusedVariables false
set_option linter.unusedSimpArgs false
set_option maxRecDepth 100000
set_option maxHeartbeats 4000000
namespace Go.Proofs.YtfolidlmgfhkiaaGreat
open Go.RowKit
structure XE where
 x:Nat->Prop
 e:World->Prop
abbrev x1 (X:NP):XE:=⟨X,fun _=>True⟩
instance:CoeFun XE (fun _=>Nat->Prop):=⟨XE.x⟩
instance:CoeOut XE (NP):=⟨XE.x⟩
structure SK (X:XE) where
 p:World->Value->Prop
 st:∀ w w' v,Kp X.x w w'->(X.e w->X.e w')->p w v->p w' v
def kAny (X:XE):SK X:=⟨fun _ _=>True,fun _ _ _ _ _ _=>trivial⟩
def RnK (P:Program) (Q:Exit->Act->World->Prop) (X:XE) (Inv:World->Prop) (κ:SK X) (o:Oper) (a:Act) (w:World):Prop:=∀ K:Act->World->Prop,(∀ v w',Kp X.x w w'->(X.e w->X.e w')->Inv w'->κ.p w' v->K (a.put o.dst v) w')->o.wp P a w K Q
def dsts (ops:Array Oper):List Nat:=ops.toList.filterMap (·.dst)
def wfOps (ops:Array Oper) (N:Nat):Bool:=(List.range ops.size).all fun i=>match ops[i]? with
 | none=>true
 | some o=>o.guard.isNone && o.after.toList.all (fun e=>decide (e.on<i)) && (match o.dst with | none=>true | some t=>decide (t<N) && (List.range ops.size).all fun j=>j == i || ((ops[j]?).bind (·.dst)) != some t)
section
variable {P:Program} {ops:Array Oper} {Q:Exit->Act->World->Prop} {X:XE} {Inv:World->Prop} {ks:Nat->SK X} {a0 a:Act} {w w':World} {listed:Array Bool}
structure SI (ops:Array Oper) (ks:Nat->SK X) (Inv:World->Prop) (a0:Act) (listed:Array Bool) (a:Act) (w:World):Prop where
 inv:Inv w
 sz:a.tmps.size=a0.tmps.size
 df:a.defers=a0.defers
 out:∀ t,t ∉ dsts ops->a.tmps.getD t undef=a0.tmps.getD t undef
 ok:∀ (i:Nat) (o:Oper) (t:Nat),listed.getD i true=true->ops[i]?=some o->o.dst=some t->(ks i).p w (a.tmps.getD t undef)
theorem wf_at {N i:Nat} {o:Oper} (h:wfOps ops N=true) (ho:ops[i]?=some o):o.guard=none/\(∀ e ∈ o.after,e.on<i)/\∀ t,o.dst=some t->t<N/\∀ (j:Nat) (oj:Oper),ops[j]?=some oj->oj.dst=some t->j=i:=by
 have hi:=(Array.getElem?_eq_some_iff.1 ho).1;have h1:=List.all_eq_true.1 h i (List.mem_range.2 hi);rw [ho] at h1;simp only [Bool.and_eq_true,Option.isNone_iff_eq_none] at h1;refine ⟨h1.1.1,fun e he=>?_,fun t ht=>?_⟩
 ·have:=List.all_eq_true.1 h1.1.2 e (by rwa [<-Array.mem_def]);exact of_decide_eq_true this
 have h2:=h1.2;rw [ht] at h2;simp only [Bool.and_eq_true,decide_eq_true_eq] at h2;refine ⟨h2.1,fun j oj hj hd=>?_⟩;have A0:=(Array.getElem?_eq_some_iff.1 hj).1;have h3:=List.all_eq_true.1 h2.2 j (List.mem_range.2 A0);rw [hj] at h3;simp only [Option.bind_some,hd,Bool.or_eq_true,beq_iff_eq,bne_self_eq_false,Bool.false_eq_true,or_false] at h3;exact h3
theorem getD_putK {a:Act} {d t:Nat} {v:Value} (hd:d<a.tmps.size):(a.put (some d) v).tmps.getD t undef=if t=d then v else a.tmps.getD t undef:=by
 show (a.tmps.setIfInBounds d v).getD t undef=_
 rw [Array.getD_eq_getD_getElem?,Array.getElem?_setIfInBounds,Array.getD_eq_getD_getElem?];by_cases h:t=d
 ·subst h;rw [if_pos rfl,if_pos rfl,if_pos hd];rfl
 rw [if_neg (fun e=>h e.symm),if_neg h]
theorem SI.step {i:Nat} {o:Oper} {v:Value} (h:SI ops ks Inv a0 listed a w) (hw:wfOps ops a0.tmps.size=true) (ho:ops[i]?=some o) (hk:Kp X.x w w') (he:X.e w->X.e w') (hi:Inv w') (hv:(ks i).p w' v):SI ops ks Inv a0 (listed.setIfInBounds i true) (a.put o.dst v) w':=by
 obtain ⟨hg,ha,hd⟩:=wf_at hw ho;cases hdst:o.dst with
 | none =>
  refine ⟨hi,h.sz,h.df,h.out,fun j oj t hj A0 ht=>?_⟩;show (ks j).p w' (a.tmps.getD t undef)
  by_cases hji:j=i
  ·subst hji;rw [ho] at A0;injection A0 with A0;subst A0;rw [hdst] at ht;cases ht
  exact tw_
 | some d =>
  obtain ⟨A1,A3⟩:=hd d hdst;rw [<-h.sz] at A1;have A2:d ∈ dsts ops:=List.mem_filterMap.2 ⟨o,by rw [<-Array.mem_def];exact Array.mem_of_getElem? ho,hdst⟩;refine ⟨hi,?_,h.df,fun t ht=>?_,fun j oj t hj A0 ht=>?_⟩
  ·show (a.tmps.setIfInBounds d v).size=_
   rw [Array.size_setIfInBounds];exact h.sz
  ·rw [getD_putK A1,if_neg (fun e=>ht (by rw [e];exact A2))];exact h.out t ht
  rw [getD_putK A1];by_cases hji:j=i
  ·subst hji;rw [ho] at A0;injection A0 with A0;subst A0;rw [hdst] at ht;injection ht with ht;subst ht;rw [if_pos rfl];exact hv
  by_cases htd:t=d
  ·subst htd;exact absurd (A3 j oj A0 ht) hji
  rw [if_neg htd];exact tw_
def StepK (P:Program) (ops:Array Oper) (Q:Exit->Act->World->Prop) (Inv:World->Prop) (ks:Nat->SK X) (a0:Act):Prop:=∀ (i:Nat) (o:Oper),ops[i]?=some o->∀ a w,Inv w->(∀ t,t ∉ dsts ops->a.tmps.getD t undef=a0.tmps.getD t undef) →
 (∀ j:Nat,o.after.toList.any (fun e=>Region.binds .any e && e.on == j)=true->∀ (oj:Oper) (t:Nat),ops[j]?=some oj->oj.dst=some t->(ks j).p w (a.tmps.getD t undef))->RnK P Q X Inv (ks i) o a w
theorem count_drop {p p':Nat->Bool} {i:Nat} (h1:p i=true) (h2:p' i=false) (h3:∀ j,j≠i->p' j=p j):∀ n,i<n->(List.range n).countP p'+1=(List.range n).countP p
 | 0,h=>by omega
 | n+1,h=>by
  rw [List.range_succ,List.countP_append,List.countP_append,List.countP_singleton,List.countP_singleton];by_cases e:i=n
  ·subst e;rw [h1,h2];have:(List.range i).countP p'=(List.range i).countP p:=List.countP_congr (fun j hj=>by rw [h3 j (by have:=List.mem_range.1 hj;omega)]);simp [this]
  rw [h3 n (fun e2=>e e2.symm)];have:=count_drop h1 h2 h3 n o_;omega
def unl (n:Nat) (listed:Array Bool):Nat:=(List.range n).countP (fun i=>!listed.getD i true)
theorem unl_zero {n:Nat} (h:unl n listed=0):∀ i,i<n->listed.getD i true=true:=fun i hi=>by
 have:=List.countP_eq_zero.1 h i (List.mem_range.2 hi)
 simpa using this
theorem unl_step {n i:Nat} (hi:i<n) (hl:listed.getD i true=false):unl n (listed.setIfInBounds i true)+1=unl n listed:=by
 have hsz:i<listed.size:=by
  rcases Nat.lt_or_ge i listed.size with h | h
  ·exact h
  rw [Array.getD_eq_getD_getElem?,Array.getElem?_eq_none h] at hl;cases hl
 refine count_drop (i:=i) (by rw [hl];rfl) ?_ (fun j hj=>?_) n hi
 ·rw [Array.getD_eq_getD_getElem?,Array.getElem?_setIfInBounds,if_pos rfl,if_pos hsz];rfl
 rw [Array.getD_eq_getD_getElem?,Array.getD_eq_getD_getElem?,Array.getElem?_setIfInBounds,if_neg (fun e=>hj e.symm)]
theorem all_done (hw:wfOps ops a0.tmps.size=true) (hz:listed.size=ops.size) (hr:Region.ready .any ops listed=[]):∀ i,i<ops.size->listed.getD i true=true:=fun i=>by
 induction i using Nat.strongRecOn with
 | ind i ih =>
  intro hi;cases hl:listed.getD i true
  ·exfalso;have hm:i ∈ Region.ready .any ops listed:=mem_ready.2 ⟨hl,ops[i],Array.getElem?_eq_getElem hi,fun e he _=>by
    have h1:=(wf_at hw (Array.getElem?_eq_getElem hi)).2.1 e he
    have h2:=ih e.on h1 o_
    rw [Array.getD_eq_getD_getElem?] at h2 ⊢
    have h3:e.on<listed.size:=by omega
    rw [Array.getElem?_eq_getElem h3] at h2 ⊢
    exact h2⟩
   rw [hr] at hm;cases hm
  rfl
theorem any_k (hw:wfOps ops a0.tmps.size=true) (hs:StepK P ops Q Inv ks a0) (fin:∀ a w,Inv w->a.tmps.size=a0.tmps.size->a.defers=a0.defers->(∀ t,t ∉ dsts ops->a.tmps.getD t undef=a0.tmps.getD t undef)->(∀ (i:Nat) (o:Oper) (t:Nat),ops[i]?=some o->o.dst=some t->(ks i).p w (a.tmps.getD t undef))->Q .normal a w) :
  ∀ (fuel:Nat) (listed:Array Bool) (a:Act) (w:World),SI ops ks Inv a0 listed a w->listed.size=ops.size->unl ops.size listed<=fuel->wpAny P .any ops Q fuel listed a w:=by
 have done:∀ (listed:Array Bool) (a:Act) (w:World),SI ops ks Inv a0 listed a w->(∀ i,i<ops.size->listed.getD i true=true)->Q .normal a w:=fun listed a w h ha =>
  fin a w h.inv h.sz h.df h.out (fun i o t ho ht=>h.ok i o t (ha i (Array.getElem?_eq_some_iff.1 ho).1) ho ht)
 intro fuel
 induction fuel with
 | zero =>
  intro listed a w h hz hu;have A0:=unl_zero (n:=ops.size) (listed:=listed) o_;refine ⟨?_,done listed a w h A0⟩;cases hr:Region.ready .any ops listed with
  | nil=>rfl
  | cons x xs =>
   exfalso;obtain ⟨h1,o,ho,_⟩:=mem_ready.1 (show x ∈ Region.ready .any ops listed from by rw [hr];exact .head _);rw [A0 x (Array.getElem?_eq_some_iff.1 ho).1] at h1;cases h1
 | succ fuel ih =>
  intro listed a w h hz hu;refine ⟨fun hr=>done listed a w h (all_done hw hz hr),fun i hi=>?_⟩;obtain ⟨h1,o,ho,h2⟩:=mem_ready.1 hi;have A4:=(Array.getElem?_eq_some_iff.1 ho).1;obtain ⟨hg,_,_⟩:=wf_at hw ho;refine wpOp_step ho (fun K hK=>?_);simp only [Region.wanted,hg,if_true];refine hs i o ho a w h.inv h.out (fun j hj oj t A5 ht=>h.ok j oj t ?_ A5 ht) K (fun v w' hk he A3 hv=>hK _ _ ?_)
  ·rw [List.any_eq_true] at hj;obtain ⟨e,he,A1⟩:=hj;rw [<-Array.mem_def] at he;obtain ⟨A2,A1⟩:Region.binds .any e=true/\e.on=j:=by simpa using A1
   subst A1;have h3:=h2 e he A2;have h4:e.on<listed.size:=by
    rcases Nat.lt_or_ge e.on listed.size with h | h
    ·exact h
    rw [Array.getD_eq_getD_getElem?,Array.getElem?_eq_none h] at h3;cases h3
   rw [Array.getD_eq_getD_getElem?,Array.getElem?_eq_getElem h4] at h3 ⊢;exact h3
  have h5:=unl_step (n:=ops.size) A4 h1;exact ih _ _ _ (h.step hw ho hk he A3 hv) yw_ o_
theorem dr_ {id:Nat} (hm:P.follows .mixedOrders=true) (hw:wfOps ops a0.tmps.size=true) (h0:Inv w.drew) (hs:StepK P ops Q Inv ks a0) (fin:∀ a w,Inv w->a.tmps.size=a0.tmps.size->a.defers=a0.defers->(∀ t,t ∉ dsts ops->a.tmps.getD t undef=a0.tmps.getD t undef)->(∀ (i:Nat) (o:Oper) (t:Nat),ops[i]?=some o->o.dst=some t->(ks i).p w (a.tmps.getD t undef))->Q .normal a w) :
  (Code.region id ops true).wp P Q a0 w:=by
 refine wp_region_any hm (any_k hw hs fin ops.size _ a0 _ ⟨h0,rfl,rfl,fun _ _=>rfl,fun i o t hl ho _=>?_⟩ t_ ?_)
 ·exact ta_
 unfold unl;have:=List.countP_le_length (p:=fun i=>!(Array.replicate ops.size false).getD i true) (l:=List.range ops.size)
 simpa using this
theorem list_k {id:Nat} (hw:wfOps ops a0.tmps.size=true) (hs:StepK P ops Q Inv ks a0) (fin:∀ a w,Inv w->a.tmps.size=a0.tmps.size->a.defers=a0.defers->(∀ t,t ∉ dsts ops->a.tmps.getD t undef=a0.tmps.getD t undef)->(∀ (i:Nat) (o:Oper) (t:Nat),ops[i]?=some o->o.dst=some t->(ks i).p w (a.tmps.getD t undef))->Q .normal a w) :
  ∀ (rest:List Oper) (k:Nat) (listed:Array Bool) (a:Act) (w:World),ops.toList.drop k=rest->listed.size=ops.size->(∀ j,j<ops.size->(listed.getD j true=true↔j<k))->SI ops ks Inv a0 listed a w->wpList P ops Q rest a w:=by
 intro rest
 induction rest with
 | nil =>
  intro k listed a w hd hz hl h;have hk:ops.size<=k:=by
   have:=congrArg List.length hd;simp at this;omega
  exact fin a w h.inv h.sz h.df h.out (fun i o t ho ht=>h.ok i o t ((hl i (Array.getElem?_eq_some_iff.1 ho).1).2 (by have:=(Array.getElem?_eq_some_iff.1 ho).1;omega)) ho ht)
 | cons o rest ih =>
  intro k listed a w hd hz hl h;have ho:ops[k]?=some o:=by
   have:(ops.toList.drop k)[0]?=some o:=by rw [hd];rfl
   rw [List.getElem?_drop] at this
   simpa using this
  have A4:=(Array.getElem?_eq_some_iff.1 ho).1;obtain ⟨hg,A0,_⟩:=wf_at hw ho;refine wpList_plain hg (fun K hK=>?_);refine hs k o ho a w h.inv h.out (fun j hj oj t A3 ht=>h.ok j oj t ?_ A3 ht) K (fun v w' hk he A2 hv=>hK _ _ ?_)
  ·rw [List.any_eq_true] at hj;obtain ⟨e,he,A1⟩:=hj;rw [<-Array.mem_def] at he;have A1:e.on=j:=(by simpa using A1:Region.binds .any e=true/\e.on=j).2;subst A1;exact (hl _ (by have:=A0 e he;omega)).2 (A0 e he)
  refine ih (k+1) (listed.setIfInBounds k true) _ _ ?_ yw_ (fun j hj=>?_) (h.step hw ho hk he A2 hv)
  ·rw [<-List.tail_drop,hd];rfl
  rw [Array.getD_eq_getD_getElem?,Array.getElem?_setIfInBounds];by_cases e:k=j
  ·subst e;rw [if_pos rfl,if_pos o_];simp
  rw [if_neg e,<-Array.getD_eq_getD_getElem?,hl j hj];omega
theorem bh_ {id:Nat} (hw:wfOps ops a0.tmps.size=true) (h0:Inv w) (hs:StepK P ops Q Inv ks a0) (fin:∀ a w,Inv w->a.tmps.size=a0.tmps.size->a.defers=a0.defers->(∀ t,t ∉ dsts ops->a.tmps.getD t undef=a0.tmps.getD t undef)->(∀ (i:Nat) (o:Oper) (t:Nat),ops[i]?=some o->o.dst=some t->(ks i).p w (a.tmps.getD t undef))->Q .normal a w) :
  (Code.region id ops false).wp P Q a0 w:=by
 refine wp_region_list (list_k (id:=id) hw hs fin ops.toList 0 (Array.replicate ops.size false) a0 w rfl t_ (fun j hj=>?_) ⟨h0,rfl,rfl,fun _ _=>rfl,fun i o t hl ho _=>?_⟩)
 ·rw [Array.getD_eq_getD_getElem?,Array.getElem?_replicate,if_pos hj];simp
 exact ta_
theorem foldl_put (g:Nat->Value):∀ (D:List Nat) (a0:Act),(∀ t ∈ D,t<a0.tmps.size)->(D.foldl (fun b t=>b.put (some t) (g t)) a0).tmps.size=a0.tmps.size/\(D.foldl (fun b t=>b.put (some t) (g t)) a0).defers=a0.defers/\∀ t,(D.foldl (fun b t=>b.put (some t) (g t)) a0).tmps.getD t undef=if t ∈ D then g t else a0.tmps.getD t undef
 | [],a0,_=>⟨rfl,rfl,fun t=>by simp⟩
 | d :: D,a0,hD=>by
  have hs:(a0.put (some d) (g d)).tmps.size=a0.tmps.size:=by show (a0.tmps.setIfInBounds d (g d)).size=_;rw [Array.size_setIfInBounds]
  obtain ⟨h1,h2,h3⟩:=foldl_put g D (a0.put (some d) (g d)) (fun t ht=>by rw [hs];exact hD t (.tail _ ht));refine ⟨h1.trans hs,h2,fun t=>?_⟩;rw [List.foldl_cons,h3,getD_putK (hD d (.head _))];by_cases e:t ∈ D
  ·rw [if_pos e,if_pos (.tail _ e)]
  rw [if_neg e];by_cases e2:t=d
  ·subst e2;rw [if_pos rfl,if_pos (.head _)]
  rw [if_neg e2,if_neg (fun h=>by rcases List.mem_cons.1 h with h | h;exact e2 h;exact e h)]
theorem do_ {a a0:Act} {D:List Nat} {g:Nat->Value} (hsz:a.tmps.size=a0.tmps.size) (hdf:a.defers=a0.defers) (hD:∀ t ∈ D,t<a0.tmps.size) (hout:∀ t,t ∉ D->a.tmps.getD t undef=a0.tmps.getD t undef) (hg:∀ t,a.tmps.getD t undef=g t):a=D.foldl (fun b t=>b.put (some t) (g t)) a0:=by
 obtain ⟨h1,h2,h3⟩:=foldl_put g D a0 hD;generalize D.foldl (fun b t=>b.put (some t) (g t)) a0=r at h1 h2 h3;obtain ⟨at_,ad⟩:=a;obtain ⟨rt,rd⟩:=r;have e1:ad=rd:=hdf.trans h2.symm;have e2:at_=rt:=by
  apply Array.ext (hsz.trans h1.symm);intro i A0 A1;have k1:=hout i;have k2:=hg i;have k3:=h3 i;simp only [Array.getD_eq_getD_getElem?,Array.getElem?_eq_getElem A0,Array.getElem?_eq_getElem A1,Option.getD_some] at k1 k2 k3;by_cases e:i ∈ D
  ·rw [if_pos e] at k3;rw [k2,k3]
  rw [if_neg e] at k3;rw [k1 e,k3]
 rw [e1,e2]
end
end Go.Proofs.YtfolidlmgfhkiaaGreat
namespace Go.Proofs.YtfolidlmgfhkiaaGreat.Pr
open Go.RowKit Go.Proofs.Tryz
theorem lastV_hit {ts:List Trk} {k:Int} {t:Trk} (h:ts[lowb ts k]?=some t) (hh:hit ts k=true):lastV ts k=t.last:=by simp [lastV,fnd,hh,h]
theorem lastV_miss {ts:List Trk} {k:Int} (hh:hit ts k=false):lastV ts k=⟨false,0⟩:=by simp [lastV,fnd,hh]
theorem strideV_hit {ts:List Trk} {k:Int} {t:Trk} (h:ts[lowb ts k]?=some t) (hh:hit ts k=true):et_ ts k=if t.last.ref then t.last else ⟨false,wrap64 (t.last.n+t.stride)⟩:=by simp [et_,fnd,hh,h]
theorem strideV_miss {ts:List Trk} {k:Int} (hh:hit ts k=false):et_ ts k=⟨false,0⟩:=by simp [et_,fnd,hh]
theorem last_any (A:OA) (n c:Nat) (ts:List Trk) (key:Int) (w:World) (hs:Sl w w 5 Trk.cells A n ts) (hn:n<=1000000) (hsort:Sorted ts) :
  Calls prog 55 #[.agg #[.slice A n c],i_ key] w fun e w'=>e=.returned (.tuple #[(lastV ts key).value,.bool (hit ts key)])/\Below w w w':=by
 have HS:=q_ hsort;have HN:=q_ hs.len;clear hsort;go_enter func55,ntmps55;go_wp2_with fail;refine (find_any A n c ts key _ ((hs.below (((b_).alloc (l_) _).alloc t_ _)).mono y_) hn HS.o).mono ?_;rintro e w' ⟨rfl,hb⟩;have A0:Below w w w':=(((b_).alloc (l_) _).alloc t_ _).trans (hb.mono za_);have hz:=hb.size;simp only [World.size_alloc] at hz;have hp:w'.cell? (a_ w)=some (.slice A n c):=(hb.cell (p:=(a_ w)) y_).trans x1_;have A3:w'.cell? (a_ (w+1))=some (.bool false):=(hb.cell (p:=(a_ (w+1))) t_).trans t_;have A4:w'.cell? (f_ (w+1) 1)=some (i_ 0):=(hb.cell (p:=(f_ (w+1) 1)) t_).trans t_;have hf:w'.frozen? (a_ (w+1))=false:=(hb.frozen (p:=(a_ (w+1))) t_).trans t_;have A6:w'.frozen? (f_ (w+1) 1)=false:=(hb.frozen (p:=(f_ (w+1) 1)) t_).trans t_;by_cases hh:hit ts key=true
 ·obtain ⟨t,ht,_,_⟩:=fnd_some hh;have A5:lowb ts key<n:=by rw [<-HN.o];exact (e_ ht).1
  have HV:=q_ (lastV_hit ht hh);obtain ⟨k,hk⟩:=ex_ (lowb ts key);rw [<-hk] at ht A5;rw [<-hk];obtain ⟨ab,ao,rfl,A2,A1⟩:=hs.at_ o_;have c1:w'.cell? ⟨ab,ao+k*5+1,none⟩=some (.bool t.last.ref):=(A0.cell (p:=(f_ ab _)) A2).trans (A1 k t ht 1 _ rfl);have c2:w'.cell? ⟨ab,ao+k*5+2,none⟩=some (i_ t.last.n):=(A0.cell (p:=(f_ ab _)) A2).trans (A1 k t ht 2 _ rfl);have HH:=q_ hh;clear ht A1 hk hh;rw [HH.o];go_wp2;refine bodyPost_ret (v:=.tuple #[.agg #[.bool t.last.ref,i_ t.last.n],.bool true]) (by simp [results,results55,go_sem,A3,A4]) rfl ⟨w5_,?_⟩;exact u6_
 have hh:hit ts key=false:=by simpa using hh
 have HV:=q_ (lastV_miss hh);have HH:=q_ hh;clear hh;rw [HH.o];go_wp2;refine bodyPost_ret (v:=.tuple #[.agg #[.bool false,i_ 0],.bool false]) (by simp [results,results55,go_sem,A3,A4]) rfl ⟨w5_,?_⟩;exact u6_
theorem reflast_any (A:OA) (n c:Nat) (ts:List Trk) (key:Int) (w:World) (hs:Sl w w 5 Trk.cells A n ts) (hn:n<=1000000) :
  Calls prog 61 #[.agg #[.slice A n c],i_ key] w fun e w'=>e=.returned (.tuple #[(lastV ts key).value,.bool (hit ts key)])/\Below w w w':=by
 have HN:=q_ hs.len;go_enter func61,ntmps61;go_wp2_with fail;refine (at_any A n c ts key _ ((hs.below (((b_).alloc (l_) _).alloc t_ _)).mono y_) hn).mono ?_;rintro e w' ⟨rfl,hb⟩;have A0:Below w w w':=(((b_).alloc (l_) _).alloc t_ _).trans (hb.mono za_);have hz:=hb.size;simp only [World.size_alloc] at hz;have hp:w'.cell? (a_ w)=some (.slice A n c):=(hb.cell (p:=(a_ w)) y_).trans x1_;have A3:w'.cell? (a_ (w+1))=some (.bool false):=(hb.cell (p:=(a_ (w+1))) t_).trans t_;have A4:w'.cell? (f_ (w+1) 1)=some (i_ 0):=(hb.cell (p:=(f_ (w+1) 1)) t_).trans t_;have hf:w'.frozen? (a_ (w+1))=false:=(hb.frozen (p:=(a_ (w+1))) t_).trans t_;have A6:w'.frozen? (f_ (w+1) 1)=false:=(hb.frozen (p:=(f_ (w+1) 1)) t_).trans t_;by_cases hh:hit ts key=true
 ·obtain ⟨t,ht,_,_⟩:=fnd_some hh;have A5:lowb ts key<n:=by rw [<-HN.o];exact (e_ ht).1
  have HV:=q_ (lastV_hit ht hh);obtain ⟨k,hk⟩:=ex_ (lowb ts key);rw [<-hk] at ht A5;rw [<-hk];obtain ⟨ab,ao,rfl,A2,A1⟩:=hs.at_ o_;have c1:w'.cell? ⟨ab,ao+k*5+1,none⟩=some (.bool t.last.ref):=(A0.cell (p:=(f_ ab _)) A2).trans (A1 k t ht 1 _ rfl);have c2:w'.cell? ⟨ab,ao+k*5+2,none⟩=some (i_ t.last.n):=(A0.cell (p:=(f_ ab _)) A2).trans (A1 k t ht 2 _ rfl);have HH:=q_ hh;clear ht A1 hk hh;rw [HH.o];go_wp2;refine bodyPost_ret (v:=.tuple #[.agg #[.bool t.last.ref,i_ t.last.n],.bool true]) (by simp [results,results61,go_sem,A3,A4]) rfl ⟨w5_,?_⟩;exact u6_
 have hh:hit ts key=false:=by simpa using hh
 have HV:=q_ (lastV_miss hh);have HH:=q_ hh;clear hh;rw [HH.o];go_wp2;refine bodyPost_ret (v:=.tuple #[.agg #[.bool false,i_ 0],.bool false]) (by simp [results,results61,go_sem,A3,A4]) rfl ⟨w5_,?_⟩;exact u6_
theorem stride_any (A:OA) (n c:Nat) (ts:List Trk) (key:Int) (w:World) (hs:Sl w w 5 Trk.cells A n ts) (hn:n<=1000000) (hsort:Sorted ts) :
  Calls prog 54 #[.agg #[.slice A n c],i_ key] w fun e w'=>e=.returned (.tuple #[(et_ ts key).value,.bool (hit ts key)])/\Below w w w':=by
 have HS:=q_ hsort;have HN:=q_ hs.len;clear hsort;go_enter func54,ntmps54;go_wp2_with fail;refine (last_any A n c ts key _ ((hs.below (((b_).alloc (l_) _).alloc t_ _)).mono y_) hn HS.o).mono ?_;rintro e w1 ⟨rfl,hb⟩;have A6:Below w w w1:=(((b_).alloc (l_) _).alloc t_ _).trans (hb.mono za_);have hz:=hb.size;simp only [World.size_alloc] at hz;have Af:(w:Nat)<w1:=by omega
 have Ag:(w:Nat)+1<w1:=by omega
 obtain ⟨hc,hf⟩:=bcell hb;have HB:=q_ A6;clear hb A6;unfold Val.value;obtain ⟨lv,A2⟩:=ex_ (lastV ts key);have HV:=q_ A2;rw [<-A2];clear A2;go_wp2_with fail;refine (find_any A n c ts key _ ((hs.below (HB.o.alloc o_ _)).mono y_) hn HS.o).mono ?_;rintro e w2 ⟨rfl,A1⟩;have A0:Below w w w2:=(HB.o.alloc o_ _).trans (A1.mono za_);obtain ⟨A7,Ae⟩:=bcell A1;have Aa:=A1.size;simp only [World.size_alloc] at Aa;have Ab:(w:Nat)<w2:=by omega
 have Ac:(w:Nat)+1<w2:=by omega
 have Ad:(w1:Nat)<w2:=by omega
 have A3:w2.cell? (a_ (w+1))=some (.bool false):=(A7 _ 0 za_).trans (by rw [World.cell?_alloc_lt _ _ _ o_,hc _ 0 t_];simp);have A4:w2.cell? (f_ (w+1) 1)=some (i_ 0):=(A7 _ 1 za_).trans (by rw [World.cell?_alloc_lt _ _ _ o_,hc _ 1 t_];simp);by_cases hh:hit ts key=true
 ·obtain ⟨t,ht,_,_⟩:=fnd_some hh;have A8:lowb ts key<n:=by rw [<-HN.o];exact (e_ ht).1
  have HW:=q_ (strideV_hit ht hh);have HL:=q_ (HV.o.trans (lastV_hit ht hh));obtain ⟨k,hk⟩:=ex_ (lowb ts key);rw [<-hk] at ht A8;rw [<-hk];obtain ⟨ab,ao,rfl,A9,A5⟩:=hs.at_ o_;have c3:w2.cell? ⟨ab,ao+k*5+2+1,none⟩=some (i_ t.stride):=(A0.cell (p:=(f_ ab _)) A9).trans (A5 k t ht 3 _ rfl);have HH:=q_ hh;clear ht A5 hk hh;rw [HH.o];cases hr:lv.ref
  ·go_wp2;go_region;go_wp2;refine bodyPost_ret (v:=.tuple #[.agg #[.bool false,i_ (wrap64 (lv.n+t.stride))],.bool true]) x5_ rfl ⟨?_,?_⟩
   ·rw [HW.o,HH.o,<-HL.o,hr];simp [Val.value]
   exact Below.drew (((A0.setCell za_ _).setCell t_ _).setCell t_ _)
  go_wp2;refine bodyPost_ret (v:=.tuple #[.agg #[.bool true,i_ lv.n],.bool true]) x5_ rfl ⟨by rw [HW.o,HH.o,<-HL.o,if_pos hr,Val.value,hr],?_⟩;exact u6_
 have hh:hit ts key=false:=by simpa using hh
 have HW:=q_ (strideV_miss hh);have HL:=q_ (HV.o.trans (lastV_miss hh));have HH:=q_ hh;clear hh;rw [HH.o];go_wp2;refine bodyPost_ret (v:=.tuple #[.agg #[.bool lv.ref,i_ lv.n],.bool false]) x5_ rfl ⟨by rw [HW.o,HH.o,HL.o];rfl,?_⟩;exact u6_
theorem refstride_any (A:OA) (n c:Nat) (ts:List Trk) (key:Int) (w:World) (hs:Sl w w 5 Trk.cells A n ts) (hn:n<=1000000) :
  Calls prog 62 #[.agg #[.slice A n c],i_ key] w fun e w'=>e=.returned (.tuple #[(et_ ts key).value,.bool (hit ts key)])/\Below w w w':=by
 have HN:=q_ hs.len;go_enter func62,ntmps62;go_wp2_with fail;refine (at_any A n c ts key _ ((hs.below (((b_).alloc (l_) _).alloc t_ _)).mono y_) hn).mono ?_;rintro e w1 ⟨rfl,hb⟩;have A0:Below w w w1:=(((b_).alloc (l_) _).alloc t_ _).trans (hb.mono za_);have hz:=hb.size;simp only [World.size_alloc] at hz;have A8:(w:Nat)<w1:=by omega
 have A5:(w:Nat)+1<w1:=by omega
 obtain ⟨hc,hf⟩:=bcell hb;have A3:w1.cell? (a_ (w+1))=some (.bool false):=by rw [hc _ 0 t_];simp
 have A4:w1.cell? (f_ (w+1) 1)=some (i_ 0):=by rw [hc _ 1 t_];simp
 by_cases hh:hit ts key=true
 ·obtain ⟨t,ht,_,_⟩:=fnd_some hh;have A6:lowb ts key<n:=by rw [<-HN.o];exact (e_ ht).1
  have HW:=q_ (strideV_hit ht hh);obtain ⟨k,hk⟩:=ex_ (lowb ts key);rw [<-hk] at ht A6;rw [<-hk];obtain ⟨ab,ao,rfl,A2,A1⟩:=hs.at_ o_;have c1:w1.cell? ⟨ab,ao+k*5+1,none⟩=some (.bool t.last.ref):=(A0.cell (p:=(f_ ab _)) A2).trans (A1 k t ht 1 _ rfl);have c2:w1.cell? ⟨ab,ao+k*5+2,none⟩=some (i_ t.last.n):=(A0.cell (p:=(f_ ab _)) A2).trans (A1 k t ht 2 _ rfl);have c3:w1.cell? ⟨ab,ao+k*5+3,none⟩=some (i_ t.stride):=(A0.cell (p:=(f_ ab _)) A2).trans (A1 k t ht 3 _ rfl);have A7:ab<w1:=by omega
  have HH:=q_ hh;clear ht A1 hk hh;rw [HH.o];cases hr:t.last.ref
  ·go_wp2;go_region;go_wp2;refine bodyPost_ret (v:=.tuple #[.agg #[.bool false,i_ (wrap64 (t.last.n+t.stride))],.bool true]) w1_ rfl ⟨?_,?_⟩
   ·rw [HW.o,HH.o,hr];rfl
   exact (bel A0)
  go_wp2;refine bodyPost_ret (v:=.tuple #[.agg #[.bool true,i_ t.last.n],.bool true]) w1_ rfl ⟨by rw [HW.o,HH.o,if_pos hr,Val.value,hr],?_⟩;exact (bel A0)
 have hh:hit ts key=false:=by simpa using hh
 have HW:=q_ (strideV_miss hh);have HH:=q_ hh;clear hh;rw [HH.o];go_wp2;refine bodyPost_ret (v:=.tuple #[.agg #[.bool false,i_ 0],.bool false]) (by simp [results,results62,go_sem,A3,A4]) rfl ⟨by rw [HW.o,HH.o];rfl,?_⟩;exact (bel A0)
end Go.Proofs.YtfolidlmgfhkiaaGreat.Pr
namespace Go.Proofs.YtfolidlmgfhkiaaGreat
open Go.RowKit
section
variable {X:NP} {w:World} {K:Nat}
theorem list_choose {α:Type} {n:Nat} {R:Nat->α->Prop} (h:∀ k,k<n->∃ x,R k x):∃ l:List α,l.length=n/\∀ (k:Nat) (x:α),l[k]?=some x->R k x:=by
 induction n with
 | zero=>exact ⟨[],rfl,fun k x hx=>by simp at hx⟩
 | succ n ih =>
  obtain ⟨l,hl,hR⟩:=ih (fun k hk=>h k o_);obtain ⟨x,hx⟩:=h n o_;refine ⟨l ++ [x],by simp [hl],fun k y hy=>?_⟩;by_cases hk:k<n
  ·rw [List.getElem?_append_left o_] at hy;exact hR k y hy
  rw [List.getElem?_append_right o_,hl] at hy;have A0:k=n:=by
   have:=(e_ hy).1;simp at this;omega
  subst A0;simp at hy;subst hy;exact hx
theorem SlT.list {α:Type} {e:List CT} {A:OA} {n c:Nat} (cells:α->VL) (P:α->Prop) (h:SlT w X K e A n c) (hc:∀ vs,VTs w X K e vs->∃ x:α,cells x=vs/\P x):∃ l:List α,Sl w w e.length cells A n l/\∀ x ∈ l,P x:=by
 rcases Nat.eq_zero_or_pos n with rfl | hn
 ·exact ⟨[],Sl.nil,fun x hx=>by simp at hx⟩
 obtain ⟨g,o,hA,hg,hX,_⟩:=h.mt hn;subst hA;obtain ⟨l,hl,hR⟩:=list_choose (n:=n) (R:=fun k x=>P x/\∀ j u,(cells x)[j]?=some u->w.cell? ⟨g,o+(k*e.length+j),none⟩=some u) (fun k hk=>by
  obtain ⟨g',o',A0,_,_,vs,A1,hm⟩:=h.mt hk
  injection A0 with A0
  injection A0 with h1 h2
  subst h1 h2
  obtain ⟨x,hx,hP⟩:=hc vs A1
  exact ⟨x,hP,fun j u hu=>by rw [hx] at hu;have:=hm j u hu;rwa [Nat.add_assoc] at this⟩)
 refine ⟨l,⟨hl,fun _=>⟨g,o,rfl,hg,fun i x hx j u hu=>(hR i x hx).2 j u hu⟩⟩,fun x hx=>?_⟩;obtain ⟨k,hk⟩:=List.getElem?_of_mem hx;exact (hR k x hk).1
theorem VTs.len {ts:List CT} {vs:VL} (h:VTs w X K ts vs):vs.length=ts.length:=h.1
theorem VTs.at {ts:List CT} {vs:VL} {t:CT} (h:VTs w X K ts vs) {j:Nat} (hj:ts[j]?=some t):∃ u,vs[j]?=some u/\VT w X K t u:=h.2 j t hj
theorem VTs.num {ts:List CT} {vs:VL} (h:VTs w X K ts vs) {j:Nat} (hj:ts[j]?=some .num):∃ n,vs[j]?=some (i_ n):=by
 obtain ⟨u,hu,hv⟩:=h.2 j _ hj;obtain ⟨n,rfl⟩:=hv.int;exact ⟨n,hu⟩
theorem VTs.tru {ts:List CT} {vs:VL} (h:VTs w X K ts vs) {j:Nat} (hj:ts[j]?=some .tru):∃ n,vs[j]?=some (.bool n):=by
 obtain ⟨u,hu,hv⟩:=h.2 j _ hj;obtain ⟨n,rfl⟩:=hv.bool;exact ⟨n,hu⟩
theorem VTs.slc {ts e:List CT} {vs:VL} (h:VTs w X K ts vs) {j:Nat} (hj:ts[j]?=some (.sl e)):∃ A n c,vs[j]?=some (.slice A n c)/\SlT w X K e A n c:=by
 obtain ⟨u,hu,hv⟩:=h.2 j _ hj;obtain ⟨A,n,c,rfl,hs⟩:=hv.slice;exact ⟨A,n,c,hu,hs⟩
end
section
variable {P:Program} {ops:Array Oper} {Q:Exit->Act->World->Prop} {X:XE} {Inv:World->Prop} {ks:Nat->SK X} {a0 a:Act} {w w':World} {listed:Array Bool}
def StepZ (P:Program) (ops:Array Oper) (Q:Exit->Act->World->Prop) (Inv:World->Prop) (ks:Nat->SK X) (a0:Act) (n:Nat):Prop:=∀ (i:Nat) (o:Oper),i≠n->ops[i]?=some o->∀ a w,Inv w->(∀ t,t ∉ dsts ops->a.tmps.getD t undef=a0.tmps.getD t undef) →
 (∀ j:Nat,o.after.toList.any (fun e=>Region.binds .any e && e.on == j)=true->∀ (oj:Oper) (t:Nat),ops[j]?=some oj->oj.dst=some t->(ks j).p w (a.tmps.getD t undef))->RnK P Q X Inv (ks i) o a w
def LastZ (P:Program) (ops:Array Oper) (Q:Exit->Act->World->Prop) (Inv:World->Prop) (ks:Nat->SK X) (a0:Act) (n:Nat) (ol:Oper):Prop:=∀ a w,Inv w->a.tmps.size=a0.tmps.size->a.defers=a0.defers->(∀ t,t ∉ dsts ops->a.tmps.getD t undef=a0.tmps.getD t undef) →
 (∀ (i:Nat) (o:Oper) (t:Nat),i≠n->ops[i]?=some o->o.dst=some t->(ks i).p w (a.tmps.getD t undef))->∀ K:Act->World->Prop,(∀ a w,Q .normal a w->K a w)->ol.wp P a w K Q
theorem ready_none (h:∀ i,i<ops.size->listed.getD i true=true):Region.ready .any ops listed=[]:=by
 cases hr:Region.ready .any ops listed with
 | nil=>rfl
 | cons x xs =>
  exfalso;obtain ⟨h1,o,ho,_⟩:=mem_ready.1 (show x ∈ Region.ready .any ops listed from by rw [hr];exact .head _);rw [h x (Array.getElem?_eq_some_iff.1 ho).1] at h1;cases h1
theorem any_end {fuel:Nat} (h:∀ i,i<ops.size->listed.getD i true=true) (hQ:Q .normal a w):wpAny P .any ops Q fuel listed a w:=by
 have hr:=ready_none h;cases fuel with
 | zero=>exact ⟨hr,hQ⟩
 | succ f=>exact ⟨fun _=>hQ,fun i hi=>by rw [hr] at hi;cases hi⟩
theorem any_kz {n:Nat} {ol:Oper} (hw:wfOps ops a0.tmps.size=true) (hn:ops.size=n+1) (hol:ops[n]?=some ol) (hall:(List.range n).all (fun j=>ol.after.toList.any (fun e=>Region.binds .any e && e.on == j))=true) (hs:StepZ P ops Q Inv ks a0 n) (hl:LastZ P ops Q Inv ks a0 n ol) :
  ∀ (fuel:Nat) (listed:Array Bool) (a:Act) (w:World),SI ops ks Inv a0 listed a w->listed.getD n true=false->listed.size=ops.size->unl ops.size listed<=fuel->wpAny P .any ops Q fuel listed a w:=by
 intro fuel
 induction fuel with
 | zero =>
  intro listed a w h A0 hz hu;have:=unl_zero (n:=ops.size) (listed:=listed) o_ n o_;rw [A0] at this;cases this
 | succ fuel ih =>
  intro listed a w h A0 hz hu;refine ⟨fun hr=>?_,fun i hi=>?_⟩
  ·have:=all_done hw hz hr n o_;rw [A0] at this;cases this
  obtain ⟨h1,o,ho,h2⟩:=mem_ready.1 hi;have A7:=(Array.getElem?_eq_some_iff.1 ho).1;obtain ⟨hg,_,_⟩:=wf_at hw ho;have A3:∀ j:Nat,o.after.toList.any (fun e=>Region.binds .any e && e.on == j)=true->listed.getD j true=true:=fun j hj=>by
   rw [List.any_eq_true] at hj;obtain ⟨e,he,A2⟩:=hj;rw [<-Array.mem_def] at he;obtain ⟨A5,A2⟩:Region.binds .any e=true/\e.on=j:=by simpa using A2
   subst A2;have h3:=h2 e he A5;have h4:e.on<listed.size:=by
    rcases Nat.lt_or_ge e.on listed.size with h | h
    ·exact h
    rw [Array.getD_eq_getD_getElem?,Array.getElem?_eq_none h] at h3;cases h3
   rw [Array.getD_eq_getD_getElem?,Array.getElem?_eq_getElem h4] at h3 ⊢;exact h3
  refine wpOp_step ho (fun K hK=>?_);simp only [Region.wanted,hg,if_true];by_cases hin:i=n
  ·subst hin;rw [hol] at ho;injection ho with ho;subst ho;have A4:∀ j,j<i->listed.getD j true=true:=fun j hj=>A3 j (List.all_eq_true.1 hall j (List.mem_range.2 hj))
   refine hl a w h.inv h.sz h.df h.out (fun j oj t hj A1 ht=>h.ok j oj t (A4 j vr_) A1 ht) K (fun a' w' hq=>hK _ _ (any_end (fun j hj=>?_) hq));by_cases e:j=i
   ·subst e;rw [Array.getD_eq_getD_getElem?,Array.getElem?_setIfInBounds,if_pos rfl,if_pos o_];rfl
   rw [getD_set_ne true (Ne.symm e)];exact A4 j o_
  refine hs i o hin ho a w h.inv h.out (fun j hj oj t A1 ht=>h.ok j oj t (A3 j hj) A1 ht) K (fun v w' hk he A6 hv=>hK _ _ ?_);have h5:=unl_step (n:=ops.size) A7 h1;exact ih _ _ _ (h.step hw ho hk he A6 hv) (by rw [getD_set_ne true hin];exact A0) yw_ o_
theorem fc_ {id:Nat} (n:Nat) {ol:Oper} (hm:P.follows .mixedOrders=true) (hw:wfOps ops a0.tmps.size=true) (hn:ops.size=n+1) (hol:ops[n]?=some ol) (hall:(List.range n).all (fun j=>ol.after.toList.any (fun e=>Region.binds .any e && e.on == j))=true) (h0:Inv w.drew) (hs:StepZ P ops Q Inv ks a0 n) (hl:LastZ P ops Q Inv ks a0 n ol) :
  (Code.region id ops true).wp P Q a0 w:=by
 refine wp_region_any hm (any_kz hw hn hol hall hs hl ops.size _ a0 _ ⟨h0,rfl,rfl,fun _ _=>rfl,fun i o t A1 ho _=>?_⟩ ?_ t_ ?_)
 ·exfalso;have A0:=(Array.getElem?_eq_some_iff.1 ho).1;rw [Array.getD_eq_getD_getElem?,Array.getElem?_replicate,if_pos A0] at A1;cases A1
 ·rw [Array.getD_eq_getD_getElem?,Array.getElem?_replicate,if_pos o_];rfl
 unfold unl;have:=List.countP_le_length (p:=fun i=>!(Array.replicate ops.size false).getD i true) (l:=List.range ops.size)
 simpa using this
end
end Go.Proofs.YtfolidlmgfhkiaaGreat
namespace Go.Proofs.YtfolidlmgfhkiaaGreat
open Go.RowKit Go.Proofs.Tryz
theorem number_any (n:Int) (w:World):Calls prog 199 #[i_ n] w fun e w'=>e=.returned (.agg #[.bool false,i_ n])/\Below w w w':=by
 go_enter func199,ntmps199;go_wp2;exact bodyPost_ret (v:=.agg #[.bool false,i_ n]) (by simp [results,results199,go_sem]) rfl ⟨rfl,(bel (b_))⟩
theorem flag_any (b:Bool) (w:World):Calls prog 198 #[.bool b] w fun e w'=>(∃ n:Int,e=.returned (.agg #[.bool false,i_ n]))/\Below w w w':=by
 obtain ⟨W,hW,A0,A1,B0⟩:=af_ w [.bool false,i_ 0] 38;have KB:=q_ B0;have KW:=q_ A0;clear B0 A0 A1;go_enter func198,ntmps198;go_upto_region 1 with fail;rw [<-hW];clear hW;go_wp2_with (refine (number_any _ _).mono ?_;rintro e w1 ⟨rfl,hb⟩;have hB:=q_ (KB.o.below hb);have A2:=q_ (KW.o.trans (hb.mono KW.o.size));have r0:=hB.o.2.1 0 _ rfl;have r1:=hB.o.2.1 1 _ rfl;have f0:=hB.o.2.2);all_goals
  exact retC results198 zd_ underlying38 rfl k_ (cs:=[_,_]) ((hB.o.set 0 _).set 1 _).whole rfl ⟨⟨_,rfl⟩,(bel A2.o)⟩
theorem Apply_any (op:Int) (a b:Val) (w:World) :
  Calls prog 174 #[i_ op,.agg #[.bool a.ref,i_ a.n],.agg #[.bool b.ref,i_ b.n]] w fun e w'=>(∃ n f:Int,e=.returned (.tuple #[.agg #[.bool false,i_ n],i_ f]))/\Below w w w':=by
 obtain ⟨W,hW,A1,A3,B0,B1,B2⟩:=dw_ w [.bool a.ref,i_ a.n] 38 [.bool b.ref,i_ b.n] 38 [.bool false,i_ 0] 38;have a0:=B0.2.1 0 _ rfl;have a1:=B0.2.1 1 _ rfl;have b0:=B1.2.1 0 _ rfl;have b1:=B1.2.1 1 _ rfl;have r0:=B2.2.1 0 _ rfl;have r1:=B2.2.1 1 _ rfl;have f0:=B2.2.2;have hB:=q_ B2;have A0:=q_ A1;have K:=h_ (∀ w',Below W W w'->Bx w' (w+2) [.bool false,i_ 0]/\Below w w w') (fun w' hb=>⟨B2.below hb,A1.trans (hb.mono A1.size)⟩);clear A3 A1 B0 B1 B2;go_enter func174,ntmps174;go_upto_region 1 with fail;rw [<-hW];clear hW;go_wp2_with (refine (flag_any _ _).mono ?_;rintro e w1 ⟨⟨nf,rfl⟩,hb⟩;obtain ⟨hB,A0⟩:=K.o w1 hb;have hB:=q_ hB;have A0:=q_ A0;have r0:=hB.o.2.1 0 _ rfl;have r1:=hB.o.2.1 1 _ rfl;have f0:=hB.o.2.2);all_goals try (refine ce_ results174 zd_ underlying38 rfl k_ (cs:=[_,_]) ((hB.o.set 0 _).set 1 _).whole rfl ?_;exact ⟨⟨_,_,rfl⟩,(bel A0.o)⟩)
 go_quiet (fail);have A2:Below W W (W.drewN nq):=below_drewN (b_) _;have HQ:=q_ A2;have hB:=q_ (K.o _ A2).1;have A0:=q_ (K.o _ A2).2;clear A2;go_wp2_with (first
  | (refine (number_any _ _).mono ?_;rintro e w1 ⟨rfl,hb⟩;obtain ⟨hB,A0⟩:=K.o w1 (HQ.o.trans hb);have hB:=q_ hB;have A0:=q_ A0;have r0:=hB.o.2.1 0 _ rfl;have r1:=hB.o.2.1 1 _ rfl;have f0:=hB.o.2.2)
  | (refine (flag_any _ _).mono ?_;rintro e w1 ⟨⟨nf,rfl⟩,hb⟩;obtain ⟨hB,A0⟩:=K.o w1 (HQ.o.trans hb);have hB:=q_ hB;have A0:=q_ A0;have r0:=hB.o.2.1 0 _ rfl;have r1:=hB.o.2.1 1 _ rfl;have f0:=hB.o.2.2))
 all_goals try (refine ce_ results174 zd_ underlying38 rfl k_ (cs:=[_,_]) ((hB.o.set 0 _).set 1 _).whole rfl ?_;exact ⟨⟨_,_,rfl⟩,(bel A0.o)⟩)
 all_goals (exfalso;first | contradiction | omega | simp_all)
theorem Truthy_any (v:Val) (w:World):Calls prog 176 #[.agg #[.bool v.ref,i_ v.n]] w fun e w'=>RB e/\Below w w w':=by
 go_enter func176,ntmps176;exact t7_
def RSB (e:Ending):Prop:=∃ s b,e=.returned (.tuple #[.string s,.bool b])
def RNB (e:Ending):Prop:=∃ n b,e=.returned (.tuple #[i_ n,.bool b])
theorem ez_ (op:Int) (w:World):Calls prog 169 #[i_ op] w fun e w'=>RB e/\Below w w w':=by
 go_enter func169,ntmps169;go_wp2;all_goals
  go_ret;exact ⟨⟨_,rfl⟩,(bel (b_))⟩
theorem names_any (w:World):Calls prog 197 #[] w fun e w'=>(∃ g,e=.returned (.slice (some (a_ g)) 12 12)/\g<w'/\Hid (∀ k:Nat,k<12->∃ s,w'.cell? (f_ g k)=some (.string s)))/\Below w w w':=by
 go_enter func197,ntmps197;go_wp2;go_ret;refine ⟨⟨_,rfl,zm_,q_ (fun k hk=>?_)⟩,(bel (b_))⟩;rw [ay_ _ _ _ _ _ t_]
 match k,hk with
 | 0,_=>exact ⟨_,rfl⟩
 | 1,_=>exact ⟨_,rfl⟩
 | 2,_=>exact ⟨_,rfl⟩
 | 3,_=>exact ⟨_,rfl⟩
 | 4,_=>exact ⟨_,rfl⟩
 | 5,_=>exact ⟨_,rfl⟩
 | 6,_=>exact ⟨_,rfl⟩
 | 7,_=>exact ⟨_,rfl⟩
 | 8,_=>exact ⟨_,rfl⟩
 | 9,_=>exact ⟨_,rfl⟩
 | 10,_=>exact ⟨_,rfl⟩
 | 11,_=>exact ⟨_,rfl⟩
theorem Name_any (op:Int) (w:World):Calls prog 170 #[i_ op] w fun e w'=>RSB e/\Below w w w':=by
 by_cases h1:1<=op/\op<=11
 ·obtain ⟨k,rfl⟩:∃ k:Nat,op=k:=⟨op.toNat,o_⟩;have h0:¬((k:Int)<1):=by omega
  have h2:¬(11:Int)<(k:Int):=by omega
  have h3:(k:Int)<12:=by omega
  have H1:=q_ h1;clear h1;go_enter func170,ntmps170;go_wp2_with (refine (names_any _).mono ?_;rintro e w1 ⟨⟨g,rfl,hg,hc⟩,hb⟩;obtain ⟨s,hs⟩:=hc.o k o_);go_ret2;exact ⟨⟨_,_,rfl⟩,(bel hb)⟩
 have h2:op<1\/11<op:=by omega
 go_enter func170,ntmps170;rcases h2 with h2 | h2
 ·go_wp2;go_ret2;exact ⟨⟨_,_,rfl⟩,(bel (b_))⟩
 have h3:¬op<1:=by omega
 go_wp2;go_ret2;exact ⟨⟨_,_,rfl⟩,(bel (b_))⟩
theorem Op_any (s:ByteArray) (w:World):Calls prog 207 #[.string s] w fun e w'=>RNB e/\Below w w w':=by
 go_enter func207,ntmps207;go_upto_region 2 with (refine (names_any _).mono ?_;rintro e w1 ⟨⟨g,rfl,hg,hc⟩,hb⟩;have HB:=q_ hb;clear hb);go_loopw [8] (fun i wr=>∃ k:Nat,k<=12/\i=i_ k/\Hid (wr=w1)) (fun i _=>12 - (intOf i).toNat)
 case atStart=>exact ⟨0,o_,rfl,q_ rfl⟩
 obtain ⟨k,hk,rfl,A1⟩:=hrel;have hw:=A1.o.symm;subst hw;clear A1;by_cases hlt:k<12
 ·have A0:(k:Int)<12:=by omega
  obtain ⟨t,ht⟩:=hc.o k hlt;go_wp2;all_goals first
   | (go_ret2;exact ⟨⟨_,_,rfl⟩,HB.o⟩)
   | (go_roundw
      case rel=>exact ⟨k+1,o_,zc_,q_ vi_⟩
      case measure=>exact me_)
 have A0:¬(k:Int)<12:=by omega
 go_wp2;go_ret2;exact ⟨⟨_,_,rfl⟩,HB.o⟩
end Go.Proofs.YtfolidlmgfhkiaaGreat
namespace Go.Proofs.YtfolidlmgfhkiaaGreat
open Go.RowKit
def valT:List CT:=[.tru,.num]
def objT:List CT:=[.num,.sl valT]
def ap_:List CT:=[.num,.num,.tru,.num]
def bm_:List CT:=[.num,.num,.num,.tru,.num]
def actT:List CT:=[.tru,.num,.num]
def regsT:List CT:=[.tru,.num,.tru,.num,.tru,.num,.tru,.num,.tru,.num,.tru,.num,.tru,.num,.tru,.num,.tru,.num,.tru,.num,.tru,.num,.tru,.num,.tru,.num,.tru,.num,.tru,.num,.tru,.num]
def cpuT:List CT:=.num :: regsT
def effT:List CT:=.num :: cpuT ++ [.sl ap_,.sl ap_,.sl objT,.sl bm_,.sl actT,.num,.tru,.tru,.num]
def ae_:List CT:=[.num,.num,.tru] ++ cpuT ++ [.sl ap_,.sl ap_,.sl ap_,.sl objT,.sl bm_,.sl actT,.num,.num,.tru,.tru,.num,.num]
def comT:List CT:=[.sl objT,.num,.num,.sl actT,.tru,.tru,.tru,.num,.num,.num]
section
variable {X:NP} {w:World} {K:Nat}
theorem VTs.val {vs:VL} (h:VTs w X K valT vs):∃ x:Val,vs=x.cells:=by
 obtain ⟨a,r1,rfl,ha,h1⟩:=h.head;obtain ⟨b,r2,rfl,hb,h2⟩:=h1.head;obtain ⟨x,rfl⟩:=ha.bool;obtain ⟨y,rfl⟩:=hb.int;rw [h2.end];exact ⟨⟨x,y⟩,rfl⟩
theorem SlT.vals {A:OA} {n c:Nat} (h:SlT w X K valT A n c):∃ s:List Val,Sl w w 2 Val.cells A n s:=by
 obtain ⟨l,hl,_⟩:=h.list Val.cells (fun _=>True) (fun vs hv=>by obtain ⟨x,rfl⟩:=hv.val;exact ⟨x,rfl,trivial⟩);exact ⟨l,hl⟩
theorem VTs.obj {vs:VL} (h:VTs w X K objT vs):∃ x:Ob,vs=x.cells/\SlT w X K valT x.A x.n x.c/\Sl w w 2 Val.cells x.A x.n x.s:=by
 obtain ⟨a,r1,rfl,ha,h1⟩:=h.head;obtain ⟨b,r2,rfl,hb,h2⟩:=h1.head;obtain ⟨x,rfl⟩:=ha.int;obtain ⟨A,n,c,rfl,hs⟩:=hb.slice;rw [h2.end];obtain ⟨s,hS⟩:=hs.vals;exact ⟨⟨x,A,n,c,s⟩,rfl,hs,hS⟩
theorem SlT.hp {A:OA} {n c:Nat} (h:SlT w X K objT A n c) (hK:K<=8796093021952):∃ l:List Ob,Hp w w A n l/\∀ o ∈ l,SlT w X K valT o.A o.n o.c:=by
 obtain ⟨l,hl,hP⟩:=h.list Ob.cells (fun o=>(Sl w w 2 Val.cells o.A o.n o.s/\o.n<=8796093021952)/\SlT w X K valT o.A o.n o.c) (fun vs hv=>by
  obtain ⟨x,rfl,h1,h2⟩:=hv.obj
  exact ⟨x,rfl,⟨h2,Nat.le_trans h1.le hK⟩,h1⟩)
 exact ⟨l,⟨hl,fun o ho=>(hP o ho).1⟩,fun o ho=>(hP o ho).2⟩
theorem vts_val (x:Val):VTs w X K valT x.cells:=(VTs.cons (.tru _) (VTs.cons (.num _) VTs.nil))
theorem vts_ob {x:Ob} (h:SlT w X K valT x.A x.n x.c):VTs w X K objT x.cells:=VTs.cons (.num _) (VTs.cons h.vt VTs.nil)
def Form (A:OA) (n c z:Nat):Prop:=n<=c/\c<=9223372036854775807/\(A=none->n=0/\c=0)/\∀ ad,A=some ad->∃ g o,ad=(f_ g o)/\g<z
theorem form_own {base sz:Nat} {et:TypeId} {A:OA} {n c:Nat} {xs:VL} (ho:w.ownsRow base et sz (.slice A n c) n xs):Form A n c w:=by
 refine ⟨(dp_ ho).1,own_cap ho,fun hA=>⟨(own_src ho).1 hA,(dp_ ho).2 hA⟩,fun ad hA=>?_⟩;subst hA;rcases ho.2 with ⟨h',_⟩ | ⟨g,cap,cur,h',hbg,hg,_⟩
 ·cases h'
 injection h' with h1 _ _;injection h1 with h1;subst h1;refine ⟨g,0,rfl,?_⟩;rcases Nat.lt_or_ge g w with h2 | h2
 ·exact h2
 rw [Array.getElem?_eq_none h2] at hg;cases hg
theorem Form.mono {A:OA} {n c z z':Nat} (h:Form A n c z) (hz:z<=z'):Form A n c z':=⟨h.1,h.2.1,h.2.2.1,fun ad hA=>by obtain ⟨g,o,e,hg⟩:=h.2.2.2 ad hA;exact ⟨g,o,e,o_⟩⟩
theorem SlT.of_sl {α:Type} {e:List CT} {cells:α->VL} {B:Nat} {A:OA} {n c:Nat} {l:List α} (h:Sl w B e.length cells A n l) (hF:Form A n c w) (hX:∀ ad,A=some ad->¬X ad.block) (hn:n<=K) (hv:∀ x ∈ l,VTs w X K e (cells x)):SlT w X K e A n c:=by
 refine ⟨hn,hF.1,hF.2.1,hF.2.2.1,fun ad hA=>?_⟩;obtain ⟨g,o,rfl,hg⟩:=hF.2.2.2 ad hA;subst hA;refine ⟨g,o,rfl,hg,hX _ rfl,fun k j=>((l[k]?).bind fun x=>(cells x)[j]?).getD undef,fun k j t hk hj=>?_,fun k j t hk hj=>?_⟩
 ·obtain ⟨ab,ao,e1,A1,hc⟩:=h.at_ o_;injection e1 with e1;injection e1 with e1 e2;subst e1 e2;have hx:=ge_ (l:=l) (i:=k) (by rw [h.len];exact hk);obtain ⟨u,hu,_⟩:=(hv _ (List.mem_of_getElem? hx)).2 j t hj;have:=hc k _ hx j u hu;show _=some (((l[k]?).bind fun x=>(cells x)[j]?).getD undef)
  rw [this,hx];simp [hu]
 have hx:=ge_ (l:=l) (i:=k) (by rw [h.len];exact hk);obtain ⟨u,hu,A0⟩:=(hv _ (List.mem_of_getElem? hx)).2 j t hj;show VT w X K t (((l[k]?).bind fun x=>(cells x)[j]?).getD undef)
 rw [hx];simp [hu];exact A0
theorem SlT.of_vals {B:Nat} {A:OA} {n c:Nat} {s:List Val} (h:Sl w B 2 Val.cells A n s) (hF:Form A n c w) (hX:∀ ad,A=some ad->¬X ad.block) (hn:n<=K):SlT w X K valT A n c :=
 SlT.of_sl (e:=valT) h hF hX hn (fun x _=>vts_val x)
def RH (X:NP) (K:Nat) (e:Ending) (w:World):Prop:=∃ (A:OA) (n c:Nat),e=.returned (.agg #[.slice A n c])/\Hid (SlT w X K objT A n c)
def RHB (X:NP) (K:Nat) (e:Ending) (w:World):Prop:=∃ (A:OA) (n c:Nat) (b:Bool),e=.returned (.tuple #[.agg #[.slice A n c],.bool b])/\Hid (SlT w X K objT A n c)
end
def Wi (X:NP) (o:Option Nat):NP:=fun k=>X k\/o=some k
def OwT (w:World) (base:Nat) (et:TypeId) (e:List CT) (X:NP) (K:Nat) (A:OA) (n c:Nat):Prop :=
 ∃ xs,w.ownsRow base et e.length (.slice A n c) n xs/\∀ k j t,k<n->e[j]?=some t->∃ u,xs[k*e.length+j]?=some u/\VT w (Wi X (Value.slice A n c).ownBlock) K t u
section
variable {X Y:NP} {w w':World} {K K' base n m c c2:Nat} {et:TypeId} {e:List CT} {A B:OA}
theorem OwT.nil (w:World) (base:Nat) (et:TypeId) (e:List CT) (X:NP) (K:Nat):OwT w base et e X K none 0 0:=⟨[],World.ownsRow_nil _ _ _ _,fun k j t h=>absurd h o_⟩
theorem OwT.slT (h:OwT w base et e X K A n c) (hb:∀ k,X k->k<base) (hn:n<=K):SlT w X K e A n c:=by
 obtain ⟨xs,ho,hx⟩:=h;exact SlT.cs_ ho hb hn (fun k j t hk hj=>by obtain ⟨u,hu,hv⟩:=hx k j t hk hj;exact ⟨u,hu,hv.less (fun k _ h=>.inl h)⟩)
theorem OwT.mono {base':Nat} (h:OwT w base et e X K A n c) (hb:base'<=base) (hK:K<=K'):OwT w base' et e X K' A n c:=by
 obtain ⟨xs,ho,hx⟩:=h;exact ⟨xs,own_mono ho hb,fun k j t hk hj=>by obtain ⟨u,hu,hv⟩:=hx k j t hk hj;exact ⟨u,hu,hv.kept (Kp.refl _ _) (fun _ _ h=>h) hK⟩⟩
theorem OwT.kept (h:OwT w base et e X K A n c) {row:Option Nat} (hg:w.grownBy w' row) (hr:∀ k,row=some k->X k/\k<base):OwT w' base et e X K A n c:=by
 obtain ⟨xs,ho,hx⟩:=h;have hne:∀ k,row=some k->(Value.slice A n c).ownBlock≠some k:=fun k hk h'=>by have:=(am_ ho h').1;have:=(hr k hk).2;omega
 refine ⟨xs,ho.kept hg (by cases row with | none=>cases (Value.slice A n c).ownBlock <;> simp | some k=>exact .inr (hne k rfl)),fun k j t hk hj=>?_⟩;exact u5_
theorem OwT.below (h:OwT w base et e X K A n c) (hb:Below w w w'):OwT w' base et e X K A n c:=h.kept (cg_ hb none) (fun _ h=>by cases h)
theorem SlT.news (h:SlT w X K e A n c):∃ news:VL,news.length=n*e.length/\(A=none->n=0)/\(∀ ad,A=some ad->∀ (j:Nat) (u:Value),news[j]?=some u->w.cell? (ad.add j)=some u)/\(∀ u ∈ news,u.oneCell'=true) ∧
  ∀ k j t,k<n->e[j]?=some t->∃ u,news[k*e.length+j]?=some u/\VT w X K t u:=by
 rcases Nat.eq_zero_or_pos n with rfl | hn
 ·exact ⟨[],zm_,fun _=>rfl,fun ad _ j u hu=>by simp at hu,fun u hu=>by simp at hu,fun k j t hk=>absurd hk o_⟩
 cases A with
 | none=>exact absurd (h.nul rfl).1 o_
 | some ad =>
  obtain ⟨g,o,rfl,hg,hX,f,hf,ht⟩:=h.at_ _ rfl;have A3:∀ i,i<n*e.length->i / e.length<n/\i % e.length<e.length/\i / e.length*e.length+i % e.length=i:=fun i hi=>by
   have A1:0<e.length:=by rcases Nat.eq_zero_or_pos e.length with h0 | h0;(rw [h0] at hi;omega);exact h0
   exact ⟨Nat.div_lt_of_lt_mul (by rw [Nat.mul_comm];exact hi),Nat.mod_lt _ A1,Nat.div_add_mod' i e.length⟩
  refine ⟨(List.range (n*e.length)).map fun i=>f (i / e.length) (i % e.length),zm_,x_,fun ad A0 j u hu=>?_,fun u hu=>?_,fun k j t hk hj=>?_⟩
  ·injection A0 with A0;subst A0;have hj:j<n*e.length:=by have:=(e_ hu).1;simpa using this
   simp [hj] at hu;subst hu;obtain ⟨h1,h2,h3⟩:=A3 j hj;rw [Addr.add_lit];have:=hf (j / e.length) (j % e.length) _ h1 (ge_ h2)
   rwa [h3] at this
  ·obtain ⟨i,hi,rfl⟩:=List.mem_map.1 hu;have hi:=List.mem_range.1 hi;obtain ⟨h1,h2,_⟩:=A3 i hi;exact (ht _ _ _ h1 (ge_ h2)).one
  have A2:j<e.length:=(e_ hj).1;have A4:k*e.length+j<n*e.length:=by
   exact t0_
  have hd:(k*e.length+j) / e.length=k:=by rw [Nat.mul_comm,Nat.mul_add_div o_,Nat.div_eq_of_lt A2];omega
  have hm:(k*e.length+j) % e.length=j:=by rw [Nat.mul_comm,Nat.mul_add_mod,Nat.mod_eq_of_lt A2]
  exact ⟨f k j,by simp [A4,hd,hm],ht k j t hk hj⟩
theorem SlT.take {X:NP} {w:World} {K n c k:Nat} {e:List CT} {A:OA} (h:SlT w X K e A n c) (hk:k<=n) (c':Nat) (hc:k<=c') (hm:c'<=c):SlT w X K e A k c':=by
 refine ⟨Nat.le_trans hk h.le,hc,by have:=h.max;omega,fun hA=>?_,fun ad hA=>?_⟩
 ·have:=h.nul hA;omega
 obtain ⟨g,o,e1,hg,hX,f,hf,ht⟩:=h.at_ ad hA;exact ⟨g,o,e1,hg,hX,f,fun q j t hq hj=>hf q j t o_ hj,fun q j t hq hj=>ht q j t o_ hj⟩
theorem SlT.drop {X:NP} {w:World} {K n c k:Nat} {e:List CT} {A:OA} (h:SlT w X K e A n c) (hk:k<=n):SlT w X K e (cutA A c k e.length) (n - k) (c - k):=by
 unfold cutA;split
 ·rename_i hck
  have A0:n - k=0:=by have:=h.cap;omega
  rw [A0];exact h.take (Nat.zero_le _) _ (Nat.zero_le _) o_
 refine ⟨by have:=h.le;omega,by have:=h.cap;omega,by have:=h.max;omega,fun hA=>?_,fun ad hA=>?_⟩
 ·cases A with
  | none=>have:=h.nul rfl;omega
  | some ad=>cases hA
 cases A with
 | none=>cases hA
 | some bd =>
  obtain ⟨g,o,rfl,hg,hX,f,hf,ht⟩:=h.at_ bd rfl;injection hA with hA;subst hA;refine ⟨g,o+k*e.length,by show Addr.add _ _=_;rw [Addr.add_lit],hg,hX,fun q j=>f (k+q) j,fun q j t hq hj=>?_,fun q j t hq hj=>ht (k+q) j t o_ hj⟩;have:=hf (k+q) j t o_ hj;rw [Nat.add_mul] at this;rw [show o+k*e.length+(q*e.length+j)=o+(k*e.length+q*e.length+j) from by omega];exact this
theorem OwT.set {X:NP} {w:World} {K base n c g k j:Nat} {et:TypeId} {e:List CT} {t:CT} {u:Value} (h:OwT w base et e X K (some (a_ g)) n c) (hk:k<n) (hj:e[j]?=some t) (hv:VT w (Wi X (some g)) K t u) (p:Addr) (hp:p=⟨g,k*e.length+j,none⟩):OwT (w.setCell p u) base et e X K (some (a_ g)) n c:=by
 subst hp;obtain ⟨xs,ho,hx⟩:=h;have A3:j<e.length:=(e_ hj).1;have A0:Kp (Wi X (some g)) w (w.setCell ⟨g,k*e.length+j,none⟩ u):=(Kp.refl _ w).setCell (.inl (.inr rfl)) u;refine ⟨xs.set (k*e.length+j) u,(ho.stored _ _).1,fun q i s hq hi=>?_⟩;have A2:i<e.length:=(e_ hi).1;obtain ⟨v,A1,A4⟩:=hx q i s hq hi;by_cases hsame:k=q/\j=i
 ·obtain ⟨rfl,rfl⟩:=hsame;rw [hj] at hi;injection hi with hi;subst hi;exact ⟨u,by rw [gs_,if_pos rfl,if_pos (e_ A1).1],hv.up A0 (l_)⟩
 have hne:k*e.length+j≠q*e.length+i:=slot_ne A3 A2 (by
  by_cases h1:k=q
  ·exact .inr (fun h2=>hsame ⟨h1,h2⟩)
  exact .inl h1)
 exact ⟨v,by rw [gs_,if_neg hne];exact A1,A4.up A0 (l_)⟩
theorem eu_ {P:Program} {t e:TypeId} {i:TypeInfo} (hu:P.underlying t=some (.slice e)) (hi:P.info? e=some i) {A:OA} {n c k:Nat} (hk:k<=c) (w:World) :
  (Instr.slice t (.slice A n c) none (some (i_ k)) (some (i_ k))).run P w=.ok (.slice A k k) w:=by
 have hm:A.map (·.add 0)=A:=by cases A <;> simp [Addr.add]
 simp [Instr.slice,run_underlying hu,Instr.sliceBounds,Instr.sliceBound,asIntOf,hk,sizeOf,typeInfo,hi,hm];try (intro h;subst h;cases A <;> simp [Addr.add])
theorem SlT.lit1 {X:NP} {w:World} {K:Nat} {e:List CT} {vs:VL} (hv:VTs w X K e vs) (et:TypeId) (hX:¬X w) (hK:1<=K):SlT (w.alloc (.cells vs.toArray et)) X K e (some (a_ w)) 1 1:=by
 have hk:Kp X w (w.alloc (.cells vs.toArray et)):=(Kp.refl X w).alloc _;refine ⟨hK,l_,o_,x_,fun ad A0=>?_⟩;injection A0 with A0;subst A0;refine ⟨_,_,rfl,zm_,hX,fun _ j=>vs.getD j undef,fun k j t A1 hj=>?_,fun k j t A1 hj=>?_⟩
 ·obtain rfl:k=0:=by omega
  obtain ⟨u,hu,_⟩:=hv.2 j t hj;rw [ay_ _ _ _ _ _ rfl];simp [hu]
 obtain ⟨u,hu,A2⟩:=hv.2 j t hj;show VT _ X K t (vs.getD j undef)
 rw [List.getD_eq_getElem?_getD,hu];exact A2.up hk (l_)
theorem ej_ {X:NP} {w:World} {K:Nat} (a b:Int) (r:Bool) (n:Int):VTs w X K [.num,.num,.tru,.num] [i_ a,i_ b,.bool r,i_ n]:=VTs.cons (.num _) (VTs.cons (.num _) (VTs.cons (.tru _) (VTs.cons (.num _) VTs.nil)))
theorem own_append {xs news:VL} {A':OA} {c':Nat} (h:OwT w base et e X K A n c) (hxs:w.ownsRow base et e.length (.slice A n c) n xs/\∀ k j t,k<n->e[j]?=some t->∃ u,xs[k*e.length+j]?=some u/\VT w (Wi X (Value.slice A n c).ownBlock) K t u)
  (hl:news.length=m*e.length) (hn:∀ k j t,k<m->e[j]?=some t->∃ u,news[k*e.length+j]?=some u/\VT w (Wi X (Value.slice A n c).ownBlock) K t u)
  (hX:∀ k,X k->k<w) (ho:w'.ownsRow base et e.length (.slice A' (n+m) c') (n+m) (xs ++ news)) (hg:w.grownBy w' (Value.slice A n c).ownBlock) (hloc:∀ g,(Value.slice A' (n+m) c').ownBlock=some g->(Value.slice A n c).ownBlock=some g\/g=w) :
  OwT w' base et e X K A' (n+m) c':=by
 have A0:xs.length=n*e.length:=hxs.1.1;have up:∀ {t:CT} {u:Value},VT w (Wi X (Value.slice A n c).ownBlock) K t u->VT w' (Wi X (Value.slice A' (n+m) c').ownBlock) K t u:=fun hv =>
  hv.kept ((Kp.refl _ w).grown hg (fun k hk=>.inl (.inr hk))) (fun k hk A1 hin=>by
   rcases hin with hin | hin
   ·exact A1 (.inl hin)
   rcases hloc k hin with h1 | h1
   ·exact A1 (.inr h1)
   omega) (l_)
 refine ⟨xs ++ news,ho,fun k j t hk hj=>?_⟩;have A2:j<e.length:=(e_ hj).1;by_cases hkn:k<n
 ·obtain ⟨u,hu,hv⟩:=hxs.2 k j t hkn hj;exact ⟨u,vm_,up hv⟩
 obtain ⟨u,hu,hv⟩:=hn (k - n) j t o_ hj;refine ⟨u,?_,up hv⟩;have e1:k*e.length=n*e.length+(k - n)*e.length:=by rw [<-Nat.add_mul];congr 1;omega
 rw [List.getElem?_append_right yi_,A0,show k*e.length+j - n*e.length=(k - n)*e.length+j from by omega];exact hu
end
section
variable {P:Program} {w:World} {ops:Array Oper} {rest:List Oper} {o:Oper} {a:Act} {Q:Exit->Act->World->Prop}
theorem ao_ (hgd:o.guard=none) (s x:Operand) (t:TypeId) (ho:o.op=.call { callee:=.builtin .append,args:=#[s,x],argTypes:=#[t,t] })
  (base:Nat) (et:TypeId) (i:TypeInfo) (z:Value) (bytes:Nat) (e:List CT) (X:NP) (K:Nat) (ht:P.underlying t=some (.slice et)) (hi:P.info? et=some i) (hz:i.zero=some z) (hsize:i.size=e.length) (hby:i.bytes=bytes) (hzs:z.cells.size=e.length) (hsz:0<e.length)
  (A:OA) (n c:Nat) (hs:a.eval s=.slice A n c) (hown:OwT w base et e X K A n c) (B:OA) (m d:Nat) (hx:a.eval x=.slice B m d) (hsrc:SlT w (Wi X (Value.slice A n c).ownBlock) K e B m d)
  (hX:∀ k,X k->k<w) (h63:n+m<=maxLen) (hbytes:(n+m)*bytes<=140737488355328) (hbase:base<=w)
  (h:∀ A' c' w',OwT w' base et e X K A' (n+m) c'->w.grownBy w' (Value.slice A n c).ownBlock->(∀ g,(Value.slice A' (n+m) c').ownBlock=some g->(Value.slice A n c).ownBlock=some g\/g=w)->wpList P ops Q rest (a.put o.dst (.slice A' (n+m) c')) w'):wpList P ops Q (o :: rest) a w:=by
 obtain ⟨xs,h1,h2⟩:=hown;obtain ⟨news,n1,n2,n3,n4,n5⟩:=hsrc.news;exact av_ hgd s x t ho base et i z e.length bytes ht hi hz hsize hby hzs hsz _ n xs hs h1 B m d news hx n2 n1 n3 n4 h63 hbytes hbase (fun A' c' w' g1 g2 g3=>h A' c' w' (own_append ⟨xs,h1,h2⟩ ⟨h1,h2⟩ n1 n5 hX g1 g2 g3) g2 g3)
theorem bt_ {K0:Act->World->Prop} {E:Prop} (hgd:o.guard=none) (s x:Operand) (t:TypeId) (ho:o.op=.call { callee:=.builtin .append,args:=#[s,x],argTypes:=#[t,t] })
  (base:Nat) (et:TypeId) (i:TypeInfo) (z:Value) (bytes:Nat) (e:List CT) (X:NP) (K:Nat) (ht:P.underlying t=some (.slice et)) (hi:P.info? et=some i) (hz:i.zero=some z) (hsize:i.size=e.length) (hby:i.bytes=bytes) (hzs:z.cells.size=e.length) (hsz:0<e.length)
  (A:OA) (n c:Nat) (hs:a.eval s=.slice A n c) (hown:OwT w base et e X K A n c) (B:OA) (m d:Nat) (hx:a.eval x=.slice B m d) (hsrc:SlT w (Wi X (Value.slice A n c).ownBlock) K e B m d)
  (hX:∀ k,X k->k<w) (h63:n+m<=maxLen) (hbytes:(n+m)*bytes<=140737488355328) (hbase:base<=w)
  (h:∀ A' c' w',OwT w' base et e X K A' (n+m) c'->w.grownBy w' (Value.slice A n c).ownBlock->(∀ g,(Value.slice A' (n+m) c').ownBlock=some g->(Value.slice A n c).ownBlock=some g\/g=w)->K0 (a.put o.dst (.slice A' (n+m) c')) w') :
  if Region.wanted o (yielded ops a.tmps)=true then Oper.wp P o a w K0 Q else E:=by
 obtain ⟨xs,h1,h2⟩:=hown;obtain ⟨news,n1,n2,n3,n4,n5⟩:=hsrc.news;exact cv_ hgd s x t ho base et i z e.length bytes ht hi hz hsize hby hzs hsz _ n xs hs h1 B m d news hx n2 n1 n3 n4 h63 hbytes hbase (fun A' c' w' g1 g2 g3=>h A' c' w' (own_append ⟨xs,h1,h2⟩ ⟨h1,h2⟩ n1 n5 hX g1 g2 g3) g2 g3)
theorem run_append_full {P:Program} (w:World) (t ty:TypeId) (et:TypeId) (i:TypeInfo) (z:Value) (bytes:Nat) (e:List CT) (X:NP) (K:Nat) (ht:P.underlying t=some (.slice et)) (hi:P.info? et=some i) (hz:i.zero=some z) (hsize:i.size=e.length) (hby:i.bytes=bytes) (hzs:z.cells.size=e.length) (hsz:0<e.length)
  (A:OA) (n c:Nat) (hdst:SlT w X K e A n c) (B:OA) (m d:Nat) (hsrc:SlT w X K e B m d) (hm:0<m) (hfull:c<n+m) (hX:∀ k,X k->k<w) (h63:n+m<=maxLen) (hbytes:(n+m)*bytes<=140737488355328) :
  ∃ A' c' w',(Builtin.append_ #[t,t] ty #[.slice A n c,.slice B m d]).run P w=.ok (.slice A' (n+m) c') w'/\OwT w' w et e X K A' (n+m) c'/\Below w w w':=by
 obtain ⟨A0,o1,o2,o3,o4,o5⟩:=hdst.news;obtain ⟨news,n1,n2,n3,n4,n5⟩:=hsrc.news;cases B with
 | none=>exact absurd (n2 rfl) o_
 | some bd =>
  have A2:∀ v' w',w'.ownsRow w et e.length v' (n+m) (A0 ++ news)->w.grownBy w' none->∃ A' c',v'=.slice A' (n+m) c'/\OwT w' w et e X K A' (n+m) c'/\Below w w w':=fun v' w' r1 r2=>by
   obtain ⟨A',c',rfl⟩:=own_form r1 o_;have hb:Below w w w':=ak_ r2 (l_) (fun k hk=>by cases hk);refine ⟨A',c',rfl,⟨A0 ++ news,r1,fun k j t hk hj=>?_⟩,hb⟩;have up:∀ {t:CT} {u:Value},VT w X K t u->VT w' (Wi X (Value.slice A' (n+m) c').ownBlock) K t u:=fun hv=>hv.kept (Kp.of_below hb) (fun k hk A1 hin=>by
    rcases hin with hin | hin
    ·exact A1 hin
    have:=(am_ r1 hin).1;omega) (l_)
   by_cases hkn:k<n
   ·obtain ⟨u,hu,hv⟩:=o5 k j t hkn hj;exact ⟨u,vm_,up hv⟩
   obtain ⟨u,hu,hv⟩:=n5 (k - n) j t o_ hj;refine ⟨u,?_,up hv⟩;have e1:k*e.length=n*e.length+(k - n)*e.length:=by rw [<-Nat.add_mul];congr 1;omega
   rw [List.getElem?_append_right (by rw [o1];omega),o1,show k*e.length+j - n*e.length=(k - n)*e.length+j from by omega];exact hu
  cases A with
  | some ad =>
   obtain ⟨v',w',hr,r1,r2⟩:=run_append_arg_grows (P:=P) w t ty et i z e.length bytes ht hi hz hsize hby hzs hsz ad n c A0 o1 (o3 ad rfl) bd m d news n1 (n3 bd rfl) hfull h63 hbytes;obtain ⟨A',c',rfl,h1,h2⟩:=A2 v' w' r1 r2;exact ⟨A',c',w',hr,h1,h2⟩
  | none =>
   obtain ⟨rfl,rfl⟩:=hdst.nul rfl;obtain rfl:A0=[]:=List.eq_nil_of_length_eq_zero (by simpa using o1);obtain ⟨v',w',hr,r1,r2,_⟩:=run_append_own (P:=P) w w t ty et i z e.length bytes ht hi hz hsize hby hzs hsz (.slice none 0 0) 0 [] (World.ownsRow_nil w _ et e.length) bd m d news n1 (n3 bd rfl) n4 h63 hbytes (l_);obtain ⟨A',c',rfl,h1,h2⟩:=A2 v' w' r1 r2;exact ⟨A',c',w',hr,h1,h2⟩
theorem bq_ {K0:Act->World->Prop} {E:Prop} (hgd:o.guard=none) (s x:Operand) (t:TypeId) (ho:o.op=.call { callee:=.builtin .append,args:=#[s,x],argTypes:=#[t,t] })
  (et:TypeId) (i:TypeInfo) (z:Value) (bytes:Nat) (e:List CT) (X:NP) (K:Nat) (ht:P.underlying t=some (.slice et)) (hi:P.info? et=some i) (hz:i.zero=some z) (hsize:i.size=e.length) (hby:i.bytes=bytes) (hzs:z.cells.size=e.length) (hsz:0<e.length)
  (A:OA) (n c:Nat) (hs:a.eval s=.slice A n c) (hdst:SlT w X K e A n c) (B:OA) (m d:Nat) (hx:a.eval x=.slice B m d) (hsrc:SlT w X K e B m d) (hm:0<m) (hfull:c<n+m) (hX:∀ k,X k->k<w) (h63:n+m<=maxLen) (hbytes:(n+m)*bytes<=140737488355328)
  (h:∀ A' c' w',OwT w' w et e X K A' (n+m) c'->Below w w w'->K0 (a.put o.dst (.slice A' (n+m) c')) w'):if Region.wanted o (yielded ops a.tmps)=true then Oper.wp P o a w K0 Q else E:=by
 obtain ⟨A',c',w',hr,h1,h2⟩:=run_append_full (P:=P) w t o.type et i z bytes e X K ht hi hz hsize hby hzs hsz A n c hdst B m d hsrc hm hfull hX h63 hbytes;have hw:Region.wanted o (yielded ops a.tmps)=true:=by simp [Region.wanted,hgd]
 exact t4_
end
section
variable {P:Program} {ops:Array Oper} {Q:Exit->Act->World->Prop} {X:XE} {Inv:World->Prop} {ks:Nat->SK X} {a0 a:Act} {w w':World} {listed:Array Bool}
theorem list_kz {n:Nat} {ol:Oper} (hw:wfOps ops a0.tmps.size=true) (hn:ops.size=n+1) (hol:ops[n]?=some ol) (hs:StepZ P ops Q Inv ks a0 n) (hl:LastZ P ops Q Inv ks a0 n ol) :
  ∀ (rest:List Oper) (k:Nat) (listed:Array Bool) (a:Act) (w:World),ops.toList.drop k=rest->k<=n->listed.size=ops.size->(∀ j,j<ops.size->(listed.getD j true=true↔j<k))->SI ops ks Inv a0 listed a w->wpList P ops Q rest a w:=by
 intro rest
 induction rest with
 | nil =>
  intro k listed a w hd hk hz A7 h;have:=congrArg List.length hd;simp at this;omega
 | cons o rest ih =>
  intro k listed a w hd A6 hz A4 h;have ho:ops[k]?=some o:=by
   have:(ops.toList.drop k)[0]?=some o:=by rw [hd];rfl
   rw [List.getElem?_drop] at this
   simpa using this
  have A8:=(Array.getElem?_eq_some_iff.1 ho).1;obtain ⟨hg,A0,_⟩:=wf_at hw ho;refine wpList_plain hg (fun K hK=>?_);by_cases e:k=n
  ·subst e;rw [hol] at ho;injection ho with ho;subst ho;have A2:rest=[]:=by
    have:=congrArg List.length hd;simp at this;exact List.eq_nil_of_length_eq_zero o_
   subst A2;exact hl a w h.inv h.sz h.df h.out (fun j oj t hj A1 ht=>h.ok j oj t ((A4 j (Array.getElem?_eq_some_iff.1 A1).1).2 vr_) A1 ht) K (fun a' w' hq=>hK _ _ hq)
  refine hs k o e ho a w h.inv h.out (fun j hj oj t A1 ht=>h.ok j oj t ?_ A1 ht) K (fun v w' hk he A5 hv=>hK _ _ ?_)
  ·rw [List.any_eq_true] at hj;obtain ⟨e',he,A3⟩:=hj;rw [<-Array.mem_def] at he;have A3:e'.on=j:=(by simpa using A3:Region.binds .any e'=true/\e'.on=j).2;subst A3;exact (A4 _ (by have:=A0 e' he;omega)).2 (A0 e' he)
  refine ih (k+1) (listed.setIfInBounds k true) _ _ ?_ o_ yw_ (fun j hj=>?_) (h.step hw ho hk he A5 hv)
  ·rw [<-List.tail_drop,hd];rfl
  rw [Array.getD_eq_getD_getElem?,Array.getElem?_setIfInBounds];by_cases e:k=j
  ·subst e;rw [if_pos rfl,if_pos o_];simp
  rw [if_neg e,<-Array.getD_eq_getD_getElem?,A4 j hj];omega
theorem region_kzl {id:Nat} (n:Nat) {ol:Oper} (hw:wfOps ops a0.tmps.size=true) (hn:ops.size=n+1) (hol:ops[n]?=some ol) (h0:Inv w) (hs:StepZ P ops Q Inv ks a0 n) (hl:LastZ P ops Q Inv ks a0 n ol):(Code.region id ops false).wp P Q a0 w:=by
 refine wp_region_list (list_kz hw hn hol hs hl ops.toList 0 (Array.replicate ops.size false) a0 w rfl o_ t_ (fun j hj=>?_) ⟨h0,rfl,rfl,fun _ _=>rfl,fun i o t A0 ho _=>?_⟩)
 ·rw [Array.getD_eq_getD_getElem?,Array.getElem?_replicate,if_pos hj];simp
 exfalso;have A1:=(Array.getElem?_eq_some_iff.1 ho).1;rw [Array.getD_eq_getD_getElem?,Array.getElem?_replicate,if_pos A1] at A0;cases A0
end
end Go.Proofs.YtfolidlmgfhkiaaGreat
namespace Go.Proofs.YtfolidlmgfhkiaaGreat
open Go.RowKit Go.Proofs.Tryz
structure Cl where
 id:Int
 field:Int
 ref:Bool
 n:Int
structure Dl where
 id:Int
 field:Int
 op:Int
 ref:Bool
 n:Int
def RIdx (n:Nat) (e:Ending):Prop:=∃ q:Int,e=.returned (i_ q)/\Hid (q=-1\/∃ k:Nat,k<n/\q=(k:Int))
section
variable {X:NP} {w:World} {K n c k:Nat} {A:OA}
theorem SlT.at0 {e:List CT} (h:SlT w X K e A n c) (hk:k<n):∃ g o,A=some (f_ g o)/\g<w/\∃ vs,VTs w X K e vs/\∀ w',Below w w w'->∀ j u,vs[j]?=some u->w'.cell? ⟨g,o+k*e.length+j,none⟩=some u:=by
 obtain ⟨g,o,hA,hg,hX,vs,hv,hm⟩:=h.mt hk;exact ⟨g,o,hA,hg,vs,hv,fun w' hb j u hu=>(belc hb hg).trans (hm j u hu)⟩
theorem SlT.num_at (h:SlT w X K [.num] A n c) (hk:k<n):∃ g o,A=some (f_ g o)/\g<w/\∃ x:Int,∀ w',Below w w w'->w'.cell? ⟨g,o+k,none⟩=some (i_ x):=by
 obtain ⟨g,o,hA,hg,vs,hv,hm⟩:=h.at0 hk;obtain ⟨a,r1,rfl,ha,h1⟩:=hv.head;obtain ⟨a,rfl⟩:=ha.int;exact ⟨g,o,hA,hg,a,fun w' hb=>by have:=hm w' hb 0 _ rfl;simpa using this⟩
theorem SlT.dx_ (h:SlT w X K ap_ A n c) (hk:k<n):∃ g o,A=some (f_ g o)/\g<w/\∃ x:Cl,∀ w',Below w w w' →
  (w'.cell? ⟨g,o+k*4,none⟩=some (i_ x.id)/\w'.cell? ⟨g,o+k*4+1,none⟩=some (i_ x.field)/\w'.cell? ⟨g,o+k*4+2,none⟩=some (.bool x.ref)/\w'.cell? ⟨g,o+k*4+3,none⟩=some (i_ x.n)):=by
 obtain ⟨g,o,hA,hg,vs,hv,hm⟩:=h.at0 hk;obtain ⟨a,r1,rfl,ha,h1⟩:=hv.head;obtain ⟨b,r2,rfl,hb,h2⟩:=h1.head;obtain ⟨c,r3,rfl,hc,h3⟩:=h2.head;obtain ⟨d,r4,rfl,hd,h4⟩:=h3.head;obtain ⟨a,rfl⟩:=ha.int;obtain ⟨b,rfl⟩:=hb.int;obtain ⟨c,rfl⟩:=hc.bool;obtain ⟨d,rfl⟩:=hd.int;exact ⟨g,o,hA,hg,⟨a,b,c,d⟩,fun w' hw=>⟨hm w' hw 0 _ rfl,hm w' hw 1 _ rfl,hm w' hw 2 _ rfl,hm w' hw 3 _ rfl⟩⟩
theorem SlT.delta_at (h:SlT w X K bm_ A n c) (hk:k<n):∃ g o,A=some (f_ g o)/\g<w/\∃ x:Dl,∀ w',Below w w w' →
  (w'.cell? ⟨g,o+k*5,none⟩=some (i_ x.id)/\w'.cell? ⟨g,o+k*5+1,none⟩=some (i_ x.field)/\w'.cell? ⟨g,o+k*5+2,none⟩=some (i_ x.op)/\w'.cell? ⟨g,o+k*5+3,none⟩=some (.bool x.ref)/\w'.cell? ⟨g,o+k*5+4,none⟩=some (i_ x.n)):=by
 obtain ⟨g,o,hA,hg,vs,hv,hm⟩:=h.at0 hk;obtain ⟨a,r1,rfl,ha,h1⟩:=hv.head;obtain ⟨b,r2,rfl,hb,h2⟩:=h1.head;obtain ⟨c,r3,rfl,hc,h3⟩:=h2.head;obtain ⟨d,r4,rfl,hd,h4⟩:=h3.head;obtain ⟨f,r5,rfl,hf,h5⟩:=h4.head;obtain ⟨a,rfl⟩:=ha.int;obtain ⟨b,rfl⟩:=hb.int;obtain ⟨c,rfl⟩:=hc.int;obtain ⟨d,rfl⟩:=hd.bool;obtain ⟨f,rfl⟩:=hf.int;exact ⟨g,o,hA,hg,⟨a,b,c,d,f⟩,fun w' hw=>⟨hm w' hw 0 _ rfl,hm w' hw 1 _ rfl,hm w' hw 2 _ rfl,hm w' hw 3 _ rfl,hm w' hw 4 _ rfl⟩⟩
theorem SlT.obj_at (h:SlT w X K objT A n c) (hk:k<n):∃ g o,A=some (f_ g o)/\g<w/\∃ x:Ob,SlT w X K valT x.A x.n x.c/\Sl w w 2 Val.cells x.A x.n x.s/\∀ w',Below w w w' →
  (w'.cell? ⟨g,o+k*2,none⟩=some (i_ x.id)/\w'.cell? ⟨g,o+k*2+1,none⟩=some (.slice x.A x.n x.c)):=by
 obtain ⟨g,o,hA,hg,vs,hv,hm⟩:=h.at0 hk;obtain ⟨x,rfl,h1,h2⟩:=hv.obj;exact ⟨g,o,hA,hg,x,h1,h2,fun w' hw=>⟨hm w' hw 0 _ rfl,hm w' hw 1 _ rfl⟩⟩
end
theorem at_t (X:NP) (K:Nat) (A:OA) (n c:Nat) (id f:Int) (w:World) (h:SlT w X K ap_ A n c) (hK:K<=4398046510976) :
  Calls prog 131 #[.slice A n c,i_ id,i_ f] w fun e w'=>RIdx n e/\Below w w w':=by
 have H:=q_ h;have hn:n<=4398046510976:=Nat.le_trans h.le hK;clear h;go_enter func131,ntmps131;go_upto_region 2 with fail;go_loopw [11] (fun i wr=>∃ k:Nat,k<=n/\i=i_ k/\Below w w wr) (fun i _=>n - (intOf i).toNat)
 case atStart=>exact ⟨0,o_,rfl,b_⟩
 obtain ⟨k,hk,rfl,hb⟩:=hrel;have A1:=hb.size;by_cases hlt:k<n
 ·have A0:(k:Int)<(n:Int):=by omega
  obtain ⟨g,o,rfl,hg,x,hx⟩:=H.o.dx_ hlt;obtain ⟨c0,c1,c2,c3⟩:=hx wr hb;have HB:=q_ hb;have HR:=h_ (RIdx n (.returned (i_ (k:Int)))) (⟨_,rfl,q_ (.inr ⟨k,hlt,rfl⟩)⟩);clear hx hb;go_wp2;all_goals first
   | (go_ret;exact ⟨HR.o,(bel HB.o)⟩)
   | (go_roundw
      case rel=>exact ⟨k+1,o_,zc_,(bel HB.o)⟩
      case measure=>exact me_)
 have A0:¬(k:Int)<(n:Int):=by omega
 go_wp2;go_ret;exact ⟨⟨_,rfl,q_ (.inl rfl)⟩,hb⟩
structure In where
 op:Int
 a:Int
 b:Int
 c:Int
 n:Int
def In.cells (x:In):VL:=[i_ x.op,i_ x.a,i_ x.b,i_ x.c,i_ x.n]
theorem In.size (x:In):x.cells.length=5:=rfl
def ax_:List CT:=[.num,.num,.num,.num,.num]
theorem VTs.inst {X:NP} {w:World} {K:Nat} {vs:VL} (h:VTs w X K ax_ vs):∃ x:In,vs=x.cells:=by
 obtain ⟨a,r1,rfl,ha,h1⟩:=h.head;obtain ⟨b,r2,rfl,hb,h2⟩:=h1.head;obtain ⟨c,r3,rfl,hc,h3⟩:=h2.head;obtain ⟨d,r4,rfl,hd,h4⟩:=h3.head;obtain ⟨e,r5,rfl,he,h5⟩:=h4.head;obtain ⟨a,rfl⟩:=ha.int;obtain ⟨b,rfl⟩:=hb.int;obtain ⟨c,rfl⟩:=hc.int;obtain ⟨d,rfl⟩:=hd.int;obtain ⟨e,rfl⟩:=he.int;rw [h5.end];exact ⟨⟨a,b,c,d,e⟩,rfl⟩
theorem SlT.insts {X:NP} {w:World} {K:Nat} {A:OA} {n c:Nat} (h:SlT w X K ax_ A n c):∃ l:List In,Sl w w 5 In.cells A n l:=by
 obtain ⟨l,hl,_⟩:=h.list In.cells (fun _=>True) (fun vs hv=>by obtain ⟨x,rfl⟩:=hv.inst;exact ⟨x,rfl,trivial⟩);exact ⟨l,hl⟩
def opAt (l:List In) (n:Int):Int:=if 0<=n then (match l[n.toNat]? with | some x=>x.op | none=>-1) else -1
theorem opAt_nat (l:List In) (k:Nat):opAt l (k:Int)=(match l[k]? with | some x=>x.op | none=>-1):=by
 unfold opAt;rw [if_pos o_,Int.toNat_natCast]
structure OkI (l:List In) (i:Nat) (x:In):Prop where
 op:0<=x.op/\x.op<=21
 a:0<=x.a/\x.a<16
 b:x.op≠13->x.op≠10->0<=x.b/\x.b<16
 c:x.op≠13->0<=x.c/\x.c<16
 call:x.op=13->(0<=x.b/\x.b<=4/\x.b<=x.c/\x.c<=64)/\opAt l x.n=21
 size:x.op=7->0<=x.n/\x.n<=16
 jump:x.op=11\/x.op=12->(i:Int)<x.n\/opAt l x.n=21
def regB (n:Int) (u:Bool):Bool:=decide (n=0) || (u && (decide (0<n) && decide (n<16)))
theorem reg_of {n:Int} {u:Bool} (h:regB n u=true):0<=n/\n<16:=by
 unfold regB at h;simp at h;omega
def ROp (l:List In) (pc:Int) (e:Ending):Prop:=∃ q:Int,e=.returned (i_ q)/\Hid (opAt l pc=q)
theorem op_any (A:OA) (n c:Nat) (v s pc:Int) (l:List In) (w:World) (hs:Sl w w 5 In.cells A n l) (hn:n<=9000000000000) :
  Calls prog 128 #[.agg #[.slice A n c,i_ v,i_ s],i_ pc] w fun e w'=>ROp l pc e/\Below w w w':=by
 have HL:=q_ hs.len;by_cases h0:pc<0
 ·have H:=h_ (opAt l pc=-1) (by unfold opAt;rw [if_neg o_]);go_enter func128,ntmps128;go_wp2;go_ret;exact ⟨⟨_,rfl,q_ H.o⟩,(bel (b_))⟩
 obtain ⟨k,rfl⟩:∃ k:Nat,pc=k:=⟨pc.toNat,o_⟩;have HK:=q_ (opAt_nat l k);by_cases h1:k<n
 ·obtain ⟨ab,ao,rfl,A1,A0⟩:=hs.at_ o_;obtain ⟨x,hx⟩:∃ x,l[k]?=some x:=⟨_,ge_ (by rw [HL.o];exact h1)⟩;have HX:=q_ hx;have c0:w.cell? ⟨ab,ao+k*5,none⟩=some (i_ x.op):=A0 k x hx 0 _ rfl;have h2:¬(n:Int)<=(k:Int):=by omega
  have h3:(k:Int)<(n:Int):=by omega
  clear A0 hx h0;exact tv_
 have h2:(n:Int)<=(k:Int):=by omega
 have HX:=h_ (l[k]?=none) (List.getElem?_eq_none z8_);exact tv_
def RReg (n:Int) (e:Ending):Prop:=∃ b:Bool,e=.returned (.bool b)/\Hid (b=true->0<=n/\n<16)
theorem bb_ (n:Int) (u:Bool) (w:World):Calls prog 168 #[i_ n,.bool u] w fun e w'=>RReg n e/\Below w w w':=by
 go_enter func168,ntmps168;by_cases h:n=0
 ·have H:=h_ (regB n u=true) (by unfold regB;simp [h]);exact uc_
 have A0:(n == 0)=false:=by simp [h]
 cases u with
 | false =>
  have H:=h_ (regB n false=false) (by unfold regB;simp [h]);exact uc_
 | true =>
  by_cases h1:0<n
  ·by_cases h2:n<16
   ·have H:=h_ (regB n true=true) (by unfold regB;simp [h1,h2]);exact uc_
   have H:=h_ (regB n true=false) (by unfold regB;simp [h2,h]);exact uc_
  have H:=h_ (regB n true=false) (by unfold regB;simp [h1,h]);exact uc_
def shTab:List (Bool × Bool × Bool × Int):=[(false,false,false,0),(true,false,false,1),(true,false,false,0),(true,true,false,0),(true,true,true,2),(true,true,false,3),(true,true,false,3),(true,false,false,4),(true,false,false,5),(true,false,false,5),(true,false,false,5),(false,false,false,6),(true,false,false,6),(false,false,false,7),(true,false,false,0),(true,false,false,0),(true,false,false,0),(false,false,false,8),(true,false,false,0),(true,false,false,0),(false,false,false,5),(false,false,false,9)]
def shCells (s:Bool × Bool × Bool × Int):VL:=[.bool s.1,.bool s.2.1,.bool s.2.2.1,i_ s.2.2.2]
theorem shapes_any (w:World):Calls prog 120 #[] w fun e w'=>(∃ g,e=.returned (.slice (some (a_ g)) 22 22)/\Hid (Sl w' w' 4 shCells (some (a_ g)) 22 shTab))/\Below w w w':=by
 go_enter func120,ntmps120;go_wp2;go_ret;refine ⟨⟨_,rfl,q_ ⟨rfl,fun _=>⟨_,_,rfl,zm_,fun i x hx j u hu=>?_⟩⟩⟩,(bel (b_))⟩;have h:=flat_get (sz:=4) (cells:=shCells) (fun _=>rfl) shTab i x hx j u hu;rw [ay_ _ _ _ _ _ t_,Nat.zero_add,<-h,List.getElem?_toArray];rfl
def shAt (k:Nat):Bool × Bool × Bool × Int:=(shTab[k]?).getD (false,false,false,0)
theorem sh_at {k:Nat} (h:k<22):shTab[k]?=some (shAt k):=by
 unfold shAt;rw [ge_ (show k<shTab.length from h)];rfl
theorem sh_n {k:Nat} (h:k<22):((shAt k).2.2.2=4/\k=7)\/((shAt k).2.2.2=6/\(k=11\/k=12))\/((shAt k).2.2.2=7/\k=13)\/((shAt k).2.2.2≠4/\(shAt k).2.2.2≠6/\(shAt k).2.2.2≠7/\k≠7/\k≠11/\k≠12/\k≠13):=by
 revert k;decide
theorem sh_v {k:Nat} (h:k<22):(k=10->(shAt k).2.2.2=5)/\((shAt k).2.2.2=0\/(shAt k).2.2.2=1\/(shAt k).2.2.2=2\/(shAt k).2.2.2=3\/(shAt k).2.2.2=4\/(shAt k).2.2.2=5\/(shAt k).2.2.2=6\/(shAt k).2.2.2=7\/(shAt k).2.2.2=8\/(shAt k).2.2.2=9):=by
 revert k;decide
def RFits (l:List In) (i:Nat) (x:In) (e:Ending):Prop:=∃ b,e=.returned (.bool b)/\(b=true->OkI l i x)
theorem rfits_no (l:List In) (i:Nat) (x:In):RFits l i x (.returned (.bool false)):=⟨false,rfl,fun h=>by cases h⟩
theorem mkOk {l:List In} {i k:Nat} {x:In} (ho:x.op=k) (hk:k<22) (ha:0<=x.a/\x.a<16) (hb:k≠13->k≠10->0<=x.b/\x.b<16) (hc:k≠13->0<=x.c/\x.c<16) (hp:k=13->0<=x.b/\x.b<=4/\x.b<=x.c/\x.c<=64)
  (hm:k=13->opAt l x.n=21) (hz:k=7->0<=x.n/\x.n<=16) (hj:k=11\/k=12->(i:Int)<x.n\/opAt l x.n=21):OkI l i x :=
 ⟨o_,ha,fun h1 h2=>hb o_ o_,fun h1=>hc o_,fun h=>⟨hp o_,hm o_⟩,fun h=>hz o_,fun h=>hj o_⟩
theorem refwrite_fin {n i j c4 g f r b0:Nat} {l:List Ob} {A:OA} {w w4 T:World} {y:Ob} {v:Val} {u:Value} (hs:Hp w w A n l) (hw4:Below w w w4) (hrow:w4.ownsRow b0 90 2 (.slice (some (a_ g)) n c4) n (l.flatMap Ob.cells)) (hT:Below w4 w4 T)
  (hy:Sl T T 2 Val.cells (some (a_ f)) y.n y.s) (hyA:y.A=some (a_ f)) (hyn:y.n<=8796093021952) (hf:w4<=f) (hj:j<y.n) (hi:i<n) (hb0:w<=b0) (hr:w<=r) (hrb:r<b0) :
  Hp (((((T.setCell ⟨f,j*2,none⟩ (.bool v.ref)).setCell ⟨f,j*2+1,none⟩ (i_ v.n)).setCell ⟨g,i*2,none⟩ (i_ y.id)).setCell ⟨g,i*2+1,none⟩ (.slice (some (a_ f)) y.n y.c)).setCell (a_ r) u)
   (((((T.setCell ⟨f,j*2,none⟩ (.bool v.ref)).setCell ⟨f,j*2+1,none⟩ (i_ v.n)).setCell ⟨g,i*2,none⟩ (i_ y.id)).setCell ⟨g,i*2+1,none⟩ (.slice (some (a_ f)) y.n y.c)).setCell (a_ r) u).heap.size (some (a_ g)) n (l.set i ⟨y.id,y.A,y.n,y.c,y.s.set j v⟩):=by
 have hz:(((((T.setCell ⟨f,j*2,none⟩ (.bool v.ref)).setCell ⟨f,j*2+1,none⟩ (i_ v.n)).setCell ⟨g,i*2,none⟩ (i_ y.id)).setCell ⟨g,i*2+1,none⟩ (.slice (some (a_ f)) y.n y.c)).setCell (a_ r) u).heap.size=T:=by simp
 have Ad:=hT.size;have Ac:=hw4.size;have Aa:b0<=g/\g<w4:=hrow.lt g zr_;have A5:=grown2 T f (j*2) (j*2+1) (.bool v.ref) (i_ v.n);obtain ⟨T1,A3⟩:=ex_ ((T.setCell ⟨f,j*2,none⟩ (.bool v.ref)).setCell ⟨f,j*2+1,none⟩ (i_ v.n));rw [<-A3] at A5;have A9:(T1:Nat)=T:=by rw [A3];simp
 have A6:=grown2 T1 g (i*2) (i*2+1) (i_ y.id) (.slice (some (a_ f)) y.n y.c);obtain ⟨T2,A4⟩:=ex_ ((T1.setCell ⟨g,i*2,none⟩ (i_ y.id)).setCell ⟨g,i*2+1,none⟩ (.slice (some (a_ f)) y.n y.c));rw [<-A4] at A6;have Ab:(T2:Nat)=T:=by rw [A4];simp [A9]
 have A7:=ec_ T2 (a_ r) u;have hl:=hs.sl.len;have A2:T1.ownsRow b0 90 2 (.slice (some (a_ g)) n c4) n (l.flatMap Ob.cells):=(own_below hrow hT).kept A5 (.inr (by intro e;simp [Value.ownBlock] at e;omega));have A1:T2.ownsRow b0 90 2 (.slice (some (a_ g)) n c4) n ((l.set i ⟨y.id,y.A,y.n,y.c,y.s.set j v⟩).flatMap Ob.cells):=by
  rw [A4];exact own_put2 Ob.size A2 hl hi ⟨y.id,y.A,y.n,y.c,y.s.set j v⟩ _ _ (by show [_,_]=_;rw [hyA])
 rw [hz];rw [<-A3,<-A4];refine ⟨((Sl.cs_ Ob.size (by rw [List.length_set];exact hl) A1).apart (l_) A7 (fun _ ad A0 e=>by injection A0 with A0;subst A0;injection e with e;simp only at e;omega)).mono o_,fun o ho=>?_⟩;rcases List.mem_or_eq_of_mem_set ho with hm | rfl
 ·obtain ⟨o1,o2⟩:=hs.obs o hm;refine ⟨?_,o2⟩;have hb:∀ ad,0<o.n->o.A=some ad->ad.block<w:=fun ad h0 A0=>by
   obtain ⟨ab,ao,e,A8,_⟩:=o1.at_ h0;rw [A0] at e;injection e with e;subst e;exact A8
  have h1:=(o1.up hw4).up hT;refine ((h1.apart (l_) A5 (fun h0 ad A0 e=>?_)).apart o_ A6 (fun h0 ad A0 e=>?_)).apart o_ A7 (fun h0 ad A0 e=>?_)
  ·have:=hb ad h0 A0;injection e with e;omega
  ·have:=hb ad h0 A0;injection e with e;omega
  have:=hb ad h0 A0;injection e with e;simp only at e;omega
 refine ⟨?_,hyn⟩;have h2:=hy.put2 Val.size hj v (u:=.bool v.ref) (v:=i_ v.n) rfl ⟨f,j*2,none⟩ ⟨f,j*2+1,none⟩ (by rw [Nat.zero_add]) (by rw [Nat.zero_add]);rw [<-A3] at h2;show Sl _ _ 2 Val.cells y.A y.n (y.s.set j v)
 rw [hyA];exact (h2.apart o_ A6 (fun _ ad A0 e=>by injection A0 with A0;subst A0;injection e with e;simp only at e;omega)).apart o_ A7 (fun _ ad A0 e=>by injection A0 with A0;subst A0;injection e with e;simp only at e;omega)
theorem Write_t (X:NP) (K:Nat) (A:OA) (n c:Nat) (id f:Int) (v:Val) (w:World) (ht:SlT w X K objT A n c) (hK:K<=4398046510976) (hX:∀ k,X k->k<w) :
  Calls prog 129 #[.agg #[.slice A n c],i_ id,i_ f,.agg #[.bool v.ref,i_ v.n]] w fun e w'=>RHB X K e w'/\Below w w w':=by
 obtain ⟨l,hs,Ap⟩:=ht.hp o_;have hn:n<=4398046510976:=Nat.le_trans ht.le hK;have HT:=q_ ht;have Ah:=q_ Ap;have AG:=q_ hX;clear ht Ap hX;obtain ⟨i0,AT,AV,AW,AX⟩:=info_parts CloneObj.infoE;have HL:=q_ hs.sl.len;have HS:=q_ hs;obtain ⟨w2,A5⟩:=ex_ (((w.alloc (.cells #[.slice A n c] 35)).alloc (.cells #[.bool v.ref,i_ v.n] 38)).alloc (.cells #[.slice none 0 0] 35));have A7:Below w w w2:=by rw [A5];exact (bel (b_))
 have Ba:(w2:Nat)=w+3:=by rw [A5];simp
 have HA:=h_ (w2.cell? (a_ w)=some (.slice A n c)) (by rw [A5,ai_ _ _ _ _ y_,ai_ _ _ _ _ t_,ay_ _ _ _ _ _ rfl];rfl);have AM:=h_ (w2.cell? (a_ (w+1))=some (.bool v.ref)) vg_;have AN:=h_ (w2.cell? (f_ (w+1) 1)=some (i_ v.n)) vg_;have HD:=h_ (w2.cell? (a_ (w+2))=some (.slice none 0 0)) (by rw [A5,ay_ _ _ _ _ _ t_];rfl);have HF:=h_ (w2.frozen? (a_ (w+2))=false) (by rw [A5,cp_ _ _ _ _ _ t_]);have As:=q_ (hs.up A7);clear hs;go_enter func129,ntmps129;go_wp2_with fail;rw [<-A5];have HW:=q_ A5;clear A5;refine (refread_any A n c l id f w2 As.o o_).mono ?_;rintro e w3 ⟨rfl,Ag⟩;have AZ:=Ag.size;have e0:w3.cell? (a_ w)=some (.slice A n c):=(belc Ag o_).trans HA.o;have e3:w3.cell? (a_ (w+2))=some (.slice none 0 0):=(belc Ag o_).trans HD.o;have f3:w3.frozen? (a_ (w+2))=false:=(belf Ag o_).trans HF.o;have q0:(w:Nat)<w3:=by omega
 have q1:(w:Nat)+1<w3:=by omega
 have q2:(w:Nat)+2<w3:=by omega
 have Az:Below w w w3:=A7.trans (Ag.mono A7.size);cases hrb:readB id f (l.map Ob.po) with
 | false =>
  have HR:=q_ (wrote_no (v:=v) hrb);have AQ:=q_ hrb;clear hrb;go_wp2;refine bodyPost_ret (v:=.tuple #[.agg #[.slice none 0 0],.bool false]) (by simp [results,results129,go_sem,e3,World.cell?_alloc_lt,q2]) rfl ?_;exact ⟨⟨none,0,0,false,rfl,q_ ⟨Nat.zero_le _,l_,o_,fun _=>⟨rfl,rfl⟩,fun _ h=>by cases h⟩⟩,(bel Az)⟩
 | true =>
  obtain ⟨i,j,x0,hi,AE,rfl,hj⟩:=readB_true hrb;obtain ⟨x,hx,rfl⟩:=po_at' AE;have HR:=q_ ((wrote_at (v:=v) hrb hi).trans (writeO_set AE));have AQ:=q_ hrb;have HI:=h_ (idxI id (l.map Ob.po)=i) y5_;have hin:i<n:=by rw [<-HL.o];exact (e_ hx).1
  have HX:=q_ hx;have HJ:=q_ hj;clear hrb hi AE hx hj;obtain ⟨W0,AH⟩:=ex_ (w3.alloc (.cells #[.bool (readD id (j:Int) (l.map Ob.po)).ref,i_ (readD id (j:Int) (l.map Ob.po)).n] 38));have Aj:Below w3 w3 W0:=by rw [AH];exact (bel (b_))
  have B1:=Aj.size;have A8:Below w2 w2 W0:=Ag.trans (Aj.mono AZ);have AF:=q_ ((As.o.up A8).sl.src Ob.size);have c0:W0.cell? (a_ w)=some (.slice A n c):=(belc A8 o_).trans HA.o;have s0:(w:Nat)<W0:=by omega
  go_wp2_with (at_builtin;rw [<-AH];refine av_ rfl _ _ 33 rfl W0 90 i0 _ 2 32 underlying33 AT AV AW AX rfl d_ (.slice none 0 0) 0 [] zb_ (World.ownsRow_nil _ _ _ _) A n c (l.flatMap Ob.cells) zb_ AF.o.1 (by rw [ds_ Ob.size,HL.o]) AF.o.2 (ob_one l) m_ o_ (l_) ?_;intro A4 c4 w4 Aa An Au;have H4:=q_ Aa;have Aw:Below W0 W0 w4:=(b_).grown An (l_) (fun k hk=>by cases hk);have Bb:=Aw.size;have d0:=(belc Aw (b:=w) (o:=0) o_).trans c0;have s1:(w:Nat)<w4:=o_;clear Aa An Au);obtain ⟨W1,Af⟩:=ex_ (w4.alloc (.cells #[.slice A4 n c4] 35));have Ak:Below w4 w4 W1:=by rw [Af];exact (bel (b_))
  have B2:(W1:Nat)=w4+1:=by rw [Af];simp
  have A0:=own_eq (Nat.zero_add n) H4.o;rw [List.nil_append] at A0;obtain ⟨g,Au,B7,Ar,AB⟩:=dv_ A0 o_;subst Au;have AD:=Sl.cs_ Ob.size HL.o A0;have Ai:=q_ A0;have g0:w4.cell? ⟨g,i*2,none⟩=some (i_ x.id):=by have:=sl_at AD HX.o (j:=0) rfl;rwa [Nat.zero_add] at this
  have g1:w4.cell? ⟨g,i*2+1,none⟩=some (.slice x.A x.n x.c):=by have:=sl_at AD HX.o (j:=1) rfl;rwa [Nat.zero_add] at this
  have z0:=AB (i*2);have z1:=AB (i*2+1);have k4:W1.cell? (a_ w4)=some (.slice (some (a_ g)) n c4):=by rw [Af,ay_ _ _ _ _ _ rfl];rfl
  have Ac:Below w2 w2 w4:=A8.trans (Aw.mono A8.size);have Ad:Below w2 w2 W1:=Ac.trans (Ak.mono Ac.size);rw [<-Af];have B3:=q_ Af;clear Af A0 AD AB c0 d0 e0;refine (refat_any A n c l id W1 (As.o.up Ad).sl o_).mono ?_;rintro e w5 ⟨rfl,Ax⟩;rw [HI.o];have B0:=Ax.size;have A9:Below w2 w2 w5:=Ad.trans (Ax.mono Ad.size);have Ae:Below w w w5:=A7.trans (A9.mono A7.size);have a0:w5.cell? (a_ w)=some (.slice A n c):=(belc A9 o_).trans HA.o;have AL:=HS.o.sl;obtain ⟨ab,ao,AS,AK,Av⟩:=AL.at_ o_;subst AS;have b0:w5.cell? ⟨ab,ao+i*2,none⟩=some (i_ x.id):=(belc Ae AK).trans (Av i x HX.o 0 _ rfl);have b1:w5.cell? ⟨ab,ao+i*2+1,none⟩=some (.slice x.A x.n x.c):=(belc Ae AK).trans (Av i x HX.o 1 _ rfl);obtain ⟨o1,o2⟩:=HS.o.obs x (List.mem_of_getElem? HX.o);have AU:(i:Int)<(n:Int):=by omega
  clear Av AL;go_wp2_with fail;refine (object_any x w5 (o1.up Ae) o2).mono ?_;rintro e w6 ⟨A6,n6,c6,rfl,A3,AC,Ay⟩;have Bc:=Ay.size;have B9:x.s.length=x.n:=o1.len;have AJ:j<x.s.length:=HJ.o;have Ao:n6=x.s.length:=AC;obtain ⟨f,AR,B5,B6,AA⟩:=dv_ A3.o o_;subst AR;have Aq:=Sl.cs_ Val.size AC.symm A3.o;obtain ⟨t,ht⟩:∃ t,x.s[j]?=some t:=⟨_,ge_ AJ⟩;have t0:w6.cell? ⟨f,j*2,none⟩=some (.bool t.ref):=by have:=sl_at Aq (i:=j) (x:=t) ht (j:=0) rfl;rwa [Nat.zero_add] at this
  have t1:w6.cell? ⟨f,j*2+1,none⟩=some (i_ t.n):=by have:=sl_at Aq (i:=j) (x:=t) ht (j:=1) rfl;rwa [Nat.zero_add] at this
  have y0:=AA (j*2);have y1:=AA (j*2+1);have A2:Below w2 w2 w6:=A9.trans (Ay.mono A9.size);have Al:Below W1 W1 w6:=Ax.trans (Ay.mono B0);have A1:Below w4 w4 w6:=Ak.trans (Al.mono o_);have m1:w6.cell? (a_ (w+1))=some (.bool v.ref):=(belc A2 o_).trans AM.o;have m2:w6.cell? (f_ (w+1) 1)=some (i_ v.n):=(belc A2 o_).trans AN.o;have m3:w6.cell? (a_ (w+2))=some (.slice none 0 0):=(belc A2 o_).trans HD.o;have m4:w6.frozen? (a_ (w+2))=false:=(belf A2 o_).trans HF.o;have m5:w6.cell? (a_ w4)=some (.slice (some (a_ g)) n c4):=(belc Al o_).trans k4;have m6:w6.cell? ⟨g,i*2,none⟩=some (i_ x.id):=(belc A1 Ar).trans g0;have m7:w6.cell? ⟨g,i*2+1,none⟩=some (.slice x.A x.n x.c):=(belc A1 Ar).trans g1;have m8:w6.frozen? ⟨g,i*2,none⟩=false:=(belf A1 Ar).trans z0;have m9:w6.frozen? ⟨g,i*2+1,none⟩=false:=(belf A1 Ar).trans z1;have l1:(w:Nat)+1<w6:=by omega
  have l2:(w:Nat)+2<w6:=by omega
  have l3:(w4:Nat)<w6:=by omega
  have l4:g<w6:=by omega
  have d1:w+1≠f:=by omega
  have d2:w+2≠f:=by omega
  have d3:w4≠f:=by omega
  have d4:g≠f:=by omega
  have d5:w4≠g:=by omega
  have d6:w6≠f:=by omega
  have d7:w6≠g:=by omega
  have d8:w+2≠g:=by omega
  have B8:(j:Int)<(n6:Int):=by omega
  have AP:=q_ Ao;have AO:=q_ Aq;clear k4 g0 g1 z0 z1 a0 b0 b1 AC Ao Aq AA ht AJ;go_wp2;refine bodyPost_ret (v:=.tuple #[.agg #[.slice (some (a_ g)) n c4],.bool true]) (by simp [results,results129,go_sem,m3,World.cell?_alloc_lt,l2]) rfl ?_;have AY:Below w w w4:=A7.trans (Ac.mono A7.size);have B4:=AP.o;have Am:=(refwrite_fin (T:=w6) (y:=⟨x.id,some (a_ f),n6,c6,x.s⟩) (j:=j) (i:=i) (v:=v) (r:=w+2) (u:=.slice (some (a_ g)) n c4) HS.o AY Ai.o A1 AO.o rfl (by show n6<=8796093021952;omega) o_ (by show j<n6;omega) hin o_ o_ o_).up ((b_).alloc (l_) (.cells #[i_ x.id,.slice (some (a_ f)) n6 c6] 90));have AI:Below w w ((((((w6.setCell ⟨f,j*2,none⟩ (.bool v.ref)).setCell ⟨f,j*2+1,none⟩ (i_ v.n)).setCell ⟨g,i*2,none⟩ (i_ x.id)).setCell ⟨g,i*2+1,none⟩ (.slice (some (a_ f)) n6 c6)).setCell (a_ (w+2)) (.slice (some (a_ g)) n c4)).alloc (.cells #[i_ x.id,.slice (some (a_ f)) n6 c6] 90)):=by
   have hb:Below w w w6:=A7.trans (A2.mono A7.size);exact (((((hb.setCell vo_ _).setCell vo_ _).setCell ya_ _).setCell ya_ _).setCell y_ _).alloc za_ _
  refine ⟨⟨_,n,c4,true,rfl,q_ (SlT.of_sl (e:=objT) Am.sl ?_ ?_ HT.o.le ?_)⟩,AI⟩
  ·refine (form_own Ai.o).mono ?_;have:=A1.size
   (simp <;> omega)
  ·intro ad Ab hx;injection Ab with Ab;subst Ab;have:=AG.o g hx;omega
  intro o ho;refine vts_ob ?_;rcases List.mem_or_eq_of_mem_set ho with hm | rfl
  ·exact (Ah.o o hm).up (Kp.of_below AI) (l_)
  refine SlT.of_vals (Am.obs _ ho).1 ?_ ?_ ?_
  ·refine (form_own A3.o).mono ?_
   (simp <;> omega)
  ·intro ad Ab hx;injection Ab with Ab;subst Ab;have:=AG.o f hx;omega
  have h1:=(Ah.o x (List.mem_of_getElem? HX.o)).le;show n6<=K
  omega
end Go.Proofs.YtfolidlmgfhkiaaGreat
namespace Go.Proofs.YtfolidlmgfhkiaaGreat.Pr
open Go.RowKit Go.Proofs.Tryz
def Gives (ts':List Trk) (w:World) (e:Ending) (w':World):Prop:=∃ A' n' c',e=.returned (.agg #[.slice A' n' c'])/\Sl w' w' 5 Trk.cells A' n' ts'/\Below w w w'/\(∀ ad,A'=some ad->w<=ad.block)
theorem own_lo {w:World} {base:Nat} {e:TypeId} {size:Nat} {A:OA} {n c:Nat} {xs:VL} (h:w.ownsRow base e size (.slice A n c) n xs) {b:Nat} (hb:b<=base):∀ ad,A=some ad->b<=ad.block:=by
 rintro ad rfl;exact Nat.le_trans hb (h.lt _ rfl).1
theorem ed_ (ts:List Trk):∀ u ∈ ts.flatMap Trk.cells,u.oneCell'=true:=by
 intro u hu;obtain ⟨t,_,ht⟩:=List.mem_flatMap.1 hu;simp [Trk.cells] at ht;rcases ht with rfl | rfl | rfl | rfl | rfl <;> rfl
theorem Sl.src {w:World} {B n:Nat} {A:OA} {ts:List Trk} (h:Sl w B 5 Trk.cells A n ts):(A=none->n=0)/\(∀ ad,A=some ad->∀ (j:Nat) (u:Value),(ts.flatMap Trk.cells)[j]?=some u->w.cell? (ad.add j)=some u):=by
 refine ⟨fun hA=>?_,fun ad hA j u hu=>?_⟩
 ·rcases Nat.eq_zero_or_pos n with h0 | h0
  ·exact h0
  obtain ⟨ab,ao,e,_⟩:=h.at_ h0;rw [hA] at e;cases e
 have hj:j<(ts.flatMap Trk.cells).length:=(e_ hu).1;rw [ds_ Trk.size] at hj;have hn:0<n:=by rw [<-h.len];omega
 obtain ⟨ab,ao,e,_,A1⟩:=h.at_ hn;rw [hA] at e;injection e with e;subst e;rw [Addr.add_lit];have hd:j / 5<ts.length:=by omega
 have hx:=ge_ hd;have hm:j % 5<(Trk.cells ts[j / 5]).length:=by rw [Trk.size];omega
 have h2:=flat_get Trk.size ts (j / 5) _ hx (j % 5) _ (ge_ hm);have A0:j / 5*5+j % 5=j:=by omega
 rw [A0,hu] at h2;injection h2 with h2;have h3:=A1 _ _ hx (j % 5) _ (ge_ hm);rw [A0,<-h2] at h3;exact h3
theorem train_new (A:OA) (n c:Nat) (ts:List Trk) (key:Int) (v:Val) (w:World) (hs:Sl w w.heap.size 5 Trk.cells A n ts) (hn:n<=900000) (hsort:Sorted ts) (hh:hit ts key=false) :
  Calls prog 53 #[.agg #[.slice A n c],i_ key,v.value] w (Gives (cl_ ts key v) w):=by
 have HS:=q_ hsort;have HH:=q_ hh;clear hsort hh;unfold Val.value;go_enter func53,ntmps53;go_wp2_with fail;obtain ⟨W,hW⟩:=ex_ (((w.alloc (.cells #[.slice A n c] 59)).alloc (.cells #[.bool v.ref,i_ v.n] 38)).alloc (.cells #[.slice none 0 0] 59));rw [<-hW];have Af:Below w.heap.size w W:=by rw [hW];exact (bel (b_))
 have Ag:W.heap.size=w.heap.size+3:=by rw [hW];simp
 have Al:=(hs.below Af).mono (B':=W.heap.size) o_;refine (CloneTk5.any A n c (ts.flatMap Trk.cells) W (Sl.src Al).1 (Sl.src Al).2 yu_ o_ (ed_ ts)).mono ?_;rintro e w1 ⟨A1,c1,rfl,A6,A4⟩;have AB:=A4.size;have q0:W.cell? (a_ w.heap.size)=some (.slice A n c):=zy_;have q1:W.cell? (a_ (w.heap.size+1))=some (.bool v.ref):=zk_;have q2:W.cell? (f_ (w.heap.size+1) 1)=some (i_ v.n):=zk_;have q3:W.cell? ⟨w.heap.size+1+1,0,none⟩=some (.slice none 0 0):=ym_;have q4:W.frozen? ⟨w.heap.size+1+1,0,none⟩=false:=xh_;have d0:=(A4.cell (p:=(a_ w.heap.size)) za_).trans q0;have d1:=(A4.cell (p:=(a_ (w.heap.size+1))) za_).trans q1;have d2:=(A4.cell (p:=(f_ (w.heap.size+1) 1)) za_).trans q2;have d3:=(A4.cell (p:=⟨w.heap.size+1+1,0,none⟩) za_).trans q3;have d4:=(A4.frozen (p:=⟨w.heap.size+1+1,0,none⟩) za_).trans q4;have Ap:w.heap.size<w1.heap.size:=by omega
 have Aq:w.heap.size+1<w1.heap.size:=by omega
 have Aa:w.heap.size+1+1<w1.heap.size:=by omega
 have HW:=q_ hW;have HZ:=q_ Ag;clear hW Ag;go_wp2_with fail;refine (find_any A1 n c1 ts key _ ((Sl.cs_ Trk.size hs.len (A6.alloc _))) o_ HS.o).mono ?_;rintro e w2 ⟨rfl,A8⟩;obtain ⟨Ah,Ai⟩:=bcell A8;have As:=A8.size;simp only [World.size_alloc] at As;have Az:w.heap.size<w2.heap.size:=by omega
 have AA:w.heap.size+1<w2.heap.size:=by omega
 have Ak:w.heap.size+1+1<w2.heap.size:=by omega
 have Ac:w1.heap.size<w2.heap.size:=by omega
 rw [HH.o];go_wp2_with fail;have Ab:=own_below (A6.alloc (.cells #[.slice A1 n c1] 59)) A8;have A5:∀ k,(Value.slice A1 n c1).ownBlock=some k->w.heap.size+3<=k/\k<w1.heap.size:=fun k hk=>by have:=A6.lt k hk;have:=HZ.o;omega
 have Aj:=lowb_le ts key;rw [hs.len] at Aj;refine (InsTk5.any (.slice A1 n c1) n (lowb ts key) (ts.flatMap Trk.cells) (Trk.cells ⟨key,v,0,1⟩) W.heap.size w2.heap.size _ (Ab.alloc _) Aj o_ za_ rfl (heap_alloc_new w2 _) (fun e=>by have:=A5 _ e;omega) (by simp [Trk.cells,Value.oneCell']) (ed_ ts)).mono ?_;rintro e w3 ⟨A3,c3,rfl,A0,A2⟩;have Au:=A2.size;simp only [World.size_alloc] at Au;have Aw:w3.cell? (a_ w1.heap.size)=some (.slice A1 n c1):=((bx_ A2).1 _ _ za_ (fun e=>by have:=A5 _ e.symm;omega)).trans ((ai_ _ _ _ _ Ac).trans ((Ah _ _ t_).trans t_));have Ax:w3.frozen? (a_ w1.heap.size)=false:=((bx_ A2).2 _ _ za_ (fun e=>by have:=A5 _ e.symm;omega)).trans ((cq_ _ _ _ _ Ac).trans ((Ai _ _ t_).trans t_));have An:w3.cell? ⟨w.heap.size+1+1,0,none⟩=some (.slice none 0 0):=((bx_ A2).1 _ _ za_ (fun e=>by have:=A5 _ e.symm;omega)).trans ((ai_ _ _ _ _ Ak).trans ((Ah _ _ za_).trans ((ai_ _ _ _ _ Aa).trans d3)));have Ay:w3.frozen? ⟨w.heap.size+1+1,0,none⟩=false:=((bx_ A2).2 _ _ za_ (fun e=>by have:=A5 _ e.symm;omega)).trans ((cq_ _ _ _ _ Ak).trans ((Ai _ _ za_).trans ((cq_ _ _ _ _ Aa).trans d4)));have Ar:w3.heap[w1.heap.size]?=some (.cells #[.slice A1 n c1] 59 (0,0)):=(A2.block _ za_ (fun e=>by have:=A5 _ e.symm;omega)).trans ((Below.heap_alloc _ _ _ Ac).trans ((A8.block _ t_).trans (heap_alloc_new w1 _)));have Ao:Below w.heap.size w w3:=(Af.trans ((A4.mono (by have:=HZ.o;omega)).alloc o_ _)).trans ((A8.mono za_).trans (((b_).alloc o_ _).grown A2 za_ (fun k hk=>by have:=A5 _ hk;omega)));have Ad:(Value.slice A3 (n+1) c3).ownBlock≠some w1.heap.size:=own_ne_type A0 Ar d_;have Ae:(Value.slice A3 (n+1) c3).ownBlock≠some (w.heap.size+1+1):=fun e=>by have:=A0.lt _ e;have:=HZ.o;omega
 have A7:(ts.flatMap Trk.cells).take (lowb ts key*5) ++ Trk.cells ⟨key,v,0,1⟩ ++ (ts.flatMap Trk.cells).drop (lowb ts key*5)=(cl_ ts key v).flatMap Trk.cells:=by
  rw [flat_take Trk.size,flat_drop Trk.size,cl_,HH.o];simp
 rw [A7] at A0;have A9:(cl_ ts key v).length=n+1:=by
  rw [cl_,HH.o];simp [hs.len];omega
 have Am:=q_ A9;have Av:=q_ A7;clear A7 A9;go_wp2;refine bodyPost_ret (v:=.agg #[.slice A3 (n+1) c3]) (by simp [results,results53,go_sem,An]) rfl ⟨A3,n+1,c3,rfl,?_,(bel Ao),own_lo A0 (by have:=HZ.o;omega)⟩;exact Sl.cs_ Trk.size Am.o (bp_ (bp_ A0 _ Ad) _ Ae)
end Go.Proofs.YtfolidlmgfhkiaaGreat.Pr
