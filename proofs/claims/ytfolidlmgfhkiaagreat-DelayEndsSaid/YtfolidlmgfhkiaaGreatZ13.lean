/- Lemmas: each says what a function of the program leaves, under the conditions that it states. -/
import Derived.Test.YtfolidlmgfhkiaaGreatZ12
set_option linter.unusedVariables false
set_option linter.unusedSimpArgs false
set_option maxRecDepth 100000
set_option maxHeartbeats 4000000
namespace Go.Proofs.YtfolidlmgfhkiaaGreat
open Go.RowKit
section
variable {P:Program} {ops:Array Oper} {Q:Exit->Act->World->Prop} {X:XE} {Inv:World->Prop} {ks:Nat->SK X} {a0 a:Act} {w w':World} {listed:Array Bool}
def StepZ (P:Program) (ops:Array Oper) (Q:Exit->Act->World->Prop) (Inv:World->Prop) (ks:Nat->SK X) (a0:Act) (n:Nat):Prop:=∀ (i:Nat) (o:Oper),i≠n->ops[i]?=some o->∀ a w,Inv w->(∀ t,t ∉ dsts ops->a.tmps.getD t undef=a0.tmps.getD t undef) →
 (∀ j:Nat,o.after.toList.any (fun e=>Region.binds .any e && e.on == j)=true->∀ (oj:Oper) (t:Nat),ops[j]?=some oj->oj.dst=some t->(ks j).p w (a.tmps.getD t undef))->RnK P Q X Inv (ks i) o a w
def LastZ (P:Program) (ops:Array Oper) (Q:Exit->Act->World->Prop) (Inv:World->Prop) (ks:Nat->SK X) (a0:Act) (n:Nat) (ol:Oper):Prop:=∀ a w,Inv w->a.tmps.size=a0.tmps.size->a.defers=a0.defers->(∀ t,t ∉ dsts ops->a.tmps.getD t undef=a0.tmps.getD t undef) →
 (∀ (i:Nat) (o:Oper) (t:Nat),i≠n->ops[i]?=some o->o.dst=some t->(ks i).p w (a.tmps.getD t undef))->∀ K:Act->World->Prop,(∀ a w,Q .normal a w->K a w)->ol.wp P a w K Q
theorem ready_none (h:∀ i,i<ops.size->listed.getD i true=true):Region.ready .any ops listed=[]:=by
 cases hr:Region.ready .any ops listed with
 | nil=>rfl
 | cons x xs =>
  exfalso;obtain ⟨h1,o,ho,_⟩:=mem_ready.1 (show x ∈ Region.ready .any ops listed from by rw [hr];exact .head _);rw [h x (Array.getElem?_eq_some_iff.1 ho).1] at h1;cases h1
theorem any_end {fuel:Nat} (h:∀ i,i<ops.size->listed.getD i true=true) (hQ:Q .normal a w):wpAny P .any ops Q fuel listed a w:=by
 have hr:=ready_none h;cases fuel with
 | zero=>exact ⟨hr,hQ⟩
 | succ f=>exact ⟨fun _=>hQ,fun i hi=>by rw [hr] at hi;cases hi⟩
theorem any_kz {n:Nat} {ol:Oper} (hw:wfOps ops a0.tmps.size=true) (hn:ops.size=n+1) (hol:ops[n]?=some ol) (hall:(List.range n).all (fun j=>ol.after.toList.any (fun e=>Region.binds .any e && e.on == j))=true) (hs:StepZ P ops Q Inv ks a0 n) (hl:LastZ P ops Q Inv ks a0 n ol) :
  ∀ (fuel:Nat) (listed:Array Bool) (a:Act) (w:World),SI ops ks Inv a0 listed a w->listed.getD n true=false->listed.size=ops.size->unl ops.size listed<=fuel->wpAny P .any ops Q fuel listed a w:=by
 intro fuel
 induction fuel with
 | zero =>
  intro listed a w h A0 hz hu;have:=unl_zero (n:=ops.size) (listed:=listed) o_ n o_;rw [A0] at this;cases this
 | succ fuel ih =>
  intro listed a w h A0 hz hu;refine ⟨fun hr=>?_,fun i hi=>?_⟩
  ·have:=all_done hw hz hr n o_;rw [A0] at this;cases this
  obtain ⟨h1,o,ho,h2⟩:=mem_ready.1 hi;have A7:=(Array.getElem?_eq_some_iff.1 ho).1;obtain ⟨hg,_,_⟩:=wf_at hw ho;have A3:∀ j:Nat,o.after.toList.any (fun e=>Region.binds .any e && e.on == j)=true->listed.getD j true=true:=fun j hj=>by
   rw [List.any_eq_true] at hj;obtain ⟨e,he,A2⟩:=hj;rw [←Array.mem_def] at he;obtain ⟨A5,A2⟩:Region.binds .any e=true/\e.on=j:=by simpa using A2
   subst A2;have h3:=h2 e he A5;have h4:e.on<listed.size:=by
    rcases Nat.lt_or_ge e.on listed.size with h | h
    ·exact h
    rw [Array.getD_eq_getD_getElem?,Array.getElem?_eq_none h] at h3;cases h3
   rw [Array.getD_eq_getD_getElem?,Array.getElem?_eq_getElem h4] at h3 ⊢;exact h3
  refine wpOp_step ho (fun K hK=>?_);simp only [Region.wanted,hg,if_true];by_cases hin:i=n
  ·subst hin;rw [hol] at ho;injection ho with ho;subst ho;have A4:∀ j,j<i->listed.getD j true=true:=fun j hj=>A3 j (List.all_eq_true.1 hall j (List.mem_range.2 hj))
   refine hl a w h.inv h.sz h.df h.out (fun j oj t hj A1 ht=>h.ok j oj t (A4 j (by have:=(Array.getElem?_eq_some_iff.1 A1).1;omega)) A1 ht) K (fun a' w' hq=>hK _ _ (any_end (fun j hj=>?_) hq));by_cases e:j=i
   ·subst e;rw [Array.getD_eq_getD_getElem?,Array.getElem?_setIfInBounds,if_pos rfl,if_pos o_];rfl
   rw [getD_set_ne true (Ne.symm e)];exact A4 j o_
  refine hs i o hin ho a w h.inv h.out (fun j hj oj t A1 ht=>h.ok j oj t (A3 j hj) A1 ht) K (fun v w' hk he A6 hv=>hK _ _ ?_);have h5:=unl_step (n:=ops.size) A7 h1;exact ih _ _ _ (h.step hw ho hk he A6 hv) (by rw [getD_set_ne true hin];exact A0) (by rw [Array.size_setIfInBounds];exact hz) o_
theorem ev_ {id:Nat} (n:Nat) {ol:Oper} (hm:P.follows .mixedOrders=true) (hw:wfOps ops a0.tmps.size=true) (hn:ops.size=n+1) (hol:ops[n]?=some ol) (hall:(List.range n).all (fun j=>ol.after.toList.any (fun e=>Region.binds .any e && e.on == j))=true) (h0:Inv w.drew) (hs:StepZ P ops Q Inv ks a0 n) (hl:LastZ P ops Q Inv ks a0 n ol) :
  (Code.region id ops true).wp P Q a0 w:=by
 refine wp_region_any hm (any_kz hw hn hol hall hs hl ops.size _ a0 _ ⟨h0,rfl,rfl,fun _ _=>rfl,fun i o t A1 ho _=>?_⟩ ?_ t_ ?_)
 ·exfalso;have A0:=(Array.getElem?_eq_some_iff.1 ho).1;rw [Array.getD_eq_getD_getElem?,Array.getElem?_replicate,if_pos A0] at A1;cases A1
 ·rw [Array.getD_eq_getD_getElem?,Array.getElem?_replicate,if_pos o_];rfl
 unfold unl;have:=List.countP_le_length (p:=fun i=>!(Array.replicate ops.size false).getD i true) (l:=List.range ops.size)
 simpa using this
end
end Go.Proofs.YtfolidlmgfhkiaaGreat
namespace Go.Proofs.YtfolidlmgfhkiaaGreat
open Go.RowKit Go.Proofs.Tryz
def lfL (n:Int):VL:=exL 1 n ⟨#[]⟩ 0 none 0 0
structure ForV (d b lp:Nat) (w0:World) (g eb:Nat) (s:ByteArray) (w:World):Prop where
 ok:Mk d b lp w
 kp:Kp (Zm d b) w0 w
 bl:b<w0
 gl:w0<=g
 el:w0<=eb
 ne:g≠eb
 bx:Bx w g (stL 5 s ⟨#[]⟩ 0 0 (some (a_ eb)) 2 2 none 0 0 none 0 0)
 be:∃ n1 n2,Bx w eb (lfL n1 ++ lfL n2)
theorem zm_ge {d b:Nat} {w0:World} (hd:d<b) (hb:b<w0) {g:Nat} (hg:w0<=g):¬Zm d b g:=fun h=>by rcases h with h | h <;> omega
theorem ForV.up {d b lp:Nat} {w0 w w':World} {g eb:Nat} {s:ByteArray} (h:ForV d b lp w0 g eb s w) (hm:Mk d b lp w') (hk:Kp (Zm d b) w w'):ForV d b lp w0 g eb s w':=by
 have hd:=hm.ne;obtain ⟨n1,n2,hb⟩:=h.be;exact ⟨hm,h.kp.trans hk,h.bl,h.gl,h.el,h.ne,h.bx.kp hk (zm_ge hd h.bl h.gl),n1,n2,hb.kp hk (zm_ge hd h.bl h.el)⟩
theorem ForV.ic {d b lp:Nat} {w0:World} {g eb:Nat} {s:ByteArray}:IC d b lp ⟨Zm d b,fun _=>True⟩ (ForV d b lp w0 g eb s) :=
 ⟨fun _ h=>h.ok,fun _ h=>h,fun _ h=>h.ok.zlt,fun _ _ h h1 h2=>h.up h1 h2,fun _ _ _ _ h=>h⟩
section
variable {X:XE}
def kLf (X:XE):SK X:=⟨fun _ u=>∃ n:Int,u=.agg (lfL n).toArray,fun _ _ _ _ _ h=>h⟩
def kLf2 (X:XE) (B:Nat):SK X:=⟨fun w u=>∃ eb n1 n2,u=.slice (some (a_ eb)) 2 2/\B<=eb/\¬X eb/\Bx w eb (lfL n1 ++ lfL n2),fun w w' u hk _ ⟨eb,n1,n2,e,hB,hX,hb⟩=>⟨eb,n1,n2,e,hB,hX,hb.kp hk hX⟩⟩
def kFor (X:XE) (B:Nat):SK X:=⟨fun w u=>∃ (s:ByteArray) (eb:Nat) (n1 n2:Int),u=.agg (stL 5 s ⟨#[]⟩ 0 0 (some (a_ eb)) 2 2 none 0 0 none 0 0).toArray/\s.size<=100/\B<=eb/\¬X eb/\Bx w eb (lfL n1 ++ lfL n2),fun w w' u hk _ ⟨s,eb,n1,n2,e,hs,hB,hX,hb⟩=>⟨s,eb,n1,n2,e,hs,hB,hX,hb.kp hk hX⟩⟩
def zst:VL:=[i_ 0,.string ⟨#[]⟩,.string ⟨#[]⟩,i_ 0,i_ 0,.slice none 0 0,.slice none 0 0,.slice none 0 0]
def kVarS (X:XE) (B:Nat):SK X:=⟨fun w u=>∃ g,u=.pointer (some (a_ g))/\B<=g/\¬X g/\Bx w g zst,fun w w' u hk _ ⟨g,e,hB,hX,hb⟩=>⟨g,e,hB,hX,hb.kp hk hX⟩⟩
end
section
variable {Q:Exit->Act->World->Prop} {X:XE} {Inv:World->Prop} {o:Oper} {a:Act} {w:World} {d b lp:Nat}
theorem rk_numl {x:Operand} {n:Int} (hC:IC d b lp X Inv) (ho:o.op=.call { callee:=.value (.func 118),args:=#[x],argTypes:=#[2] }) (hx:a.eval x=i_ n) (hI:Inv w):RnK prog Q X Inv (kLf X) o a w:=by
 have hf:a.eval (.func 118)=.func (.func 118) #[] #[]:=rfl;generalize hr:a.eval=r at hx hf;refine ck_ (f:=118) (args:=#[i_ n]) (by rw [hr];simp [execOp,ho,hx,hf,go_sem]) ((num_m n w).mono ?_);rintro e w' ⟨rfl,hb⟩;exact ⟨_,rfl,.of_below hb,hC.ex w w' hI (.of_below hb),hC.below hI hb,n,rfl⟩
theorem rk_lf2 {x y:Operand} {B:Nat} (hC:IC d b lp X Inv) (hB:B<=w) (ho:o.op=.buildSlice 207 2 #[(0,x),(1,y)]) (hx:(kLf X).p w (a.eval x)) (hy:(kLf X).p w (a.eval y)) (hI:Inv w):RnK prog Q X Inv (kLf2 X B) o a w:=by
 obtain ⟨n1,hx⟩:=hx;obtain ⟨n2,hy⟩:=hy;generalize hr:a.eval=r at hx hy;refine rk_to (v:=.slice (some (a_ w)) 2 2) (w':=w.alloc (.cells (lfL n1 ++ lfL n2).toArray 209)) (by rw [hr];simp [execOp,ho,hx,hy,go_sem,lfL,exL]) (.of_below (av_ w _ _)) (hC.ex w _ hI (.of_below (av_ w _ _))) ?_ (hC.below hI (av_ w _ _));exact ⟨_,n1,n2,rfl,hB,fun h=>by have:=hC.lt w hI _ h;omega,Bx.new w _ _⟩
theorem rk_for {x y:Operand} {B:Nat} (ho:o.op=.build 212 #[(0,.const (i_ 5)),(1,x),(5,y)]) (hx:(kStr X).p w (a.eval x)) (hy:(kLf2 X B).p w (a.eval y)) (hI:Inv w):RnK prog Q X Inv (kFor X B) o a w:=by
 obtain ⟨s,hx,hs⟩:=hx;obtain ⟨eb,n1,n2,hy,h1,h2,h3⟩:=hy;have e0:a.eval (.const (i_ 5))=i_ 5:=rfl;generalize hr:a.eval=r at hx hy e0;exact bt_ (v:=.agg (stL 5 s ⟨#[]⟩ 0 0 (some (a_ eb)) 2 2 none 0 0 none 0 0).toArray) (by rw [hr];simp [execOp,ho,hx,hy,e0,go_sem,stL]) ⟨s,eb,n1,n2,rfl,hs,h1,h2,h3⟩ hI
theorem rk_vars {B:Nat} (hC:IC d b lp X Inv) (hB:B<=w) (ho:o.op=.alloc 212) (hI:Inv w):RnK prog Q X Inv (kVarS X B) o a w:=by
 refine rk_to (v:=.pointer (some (a_ w))) (w':=w.alloc (.cells zst.toArray 212)) (by simp [execOp,ho,go_sem,zst]) (.of_below (av_ w _ _)) (hC.ex w _ hI (.of_below (av_ w _ _))) ?_ (hC.below hI (av_ w _ _));exact ⟨_,rfl,hB,fun h=>by have:=hC.lt w hI _ h;omega,Bx.new w _ _⟩
theorem rk_fld8 {x:Operand} {g f:Nat} (hf:f<8) (ho:o.op=.fieldAddr 212 x f) (hx:a.eval x=.pointer (some (a_ g))) (hI:Inv w):RnK prog Q X Inv (kV X (.pointer (some (f_ g f)))) o a w:=by
 generalize hr:a.eval=r at hx;refine bt_ (v:=.pointer (some (f_ g f))) ?_ rfl hI;rw [hr]
 match f,hf with
 | 0,_=>simp [execOp,ho,hx,go_sem]
 | 1,_=>simp [execOp,ho,hx,go_sem]
 | 2,_=>simp [execOp,ho,hx,go_sem]
 | 3,_=>simp [execOp,ho,hx,go_sem]
 | 4,_=>simp [execOp,ho,hx,go_sem]
 | 5,_=>simp [execOp,ho,hx,go_sem]
 | 6,_=>simp [execOp,ho,hx,go_sem]
 | 7,_=>simp [execOp,ho,hx,go_sem]
theorem rk_ix1 {x:Operand} {eb:Nat} (ho:o.op=.indexAddr 207 x (.const (i_ 1))) (hx:a.eval x=.slice (some (a_ eb)) 2 2) (hI:Inv w):RnK prog Q X Inv (kV X (.pointer (some (f_ eb 5)))) o a w:=by
 have e0:a.eval (.const (i_ 1))=i_ 1:=rfl;generalize hr:a.eval=r at hx e0;exact bt_ (v:=.pointer (some (f_ eb 5))) (by rw [hr];simp [execOp,ho,hx,e0,go_sem]) rfl hI
theorem kNat_le {n m:Nat} (h:n<=m) {v:Value} (hv:(kNat X n).p w v):(kNat X m).p w v:=by
 obtain ⟨r,hr,e⟩:=hv;exact ⟨r,o_,e⟩
end
end Go.Proofs.YtfolidlmgfhkiaaGreat
namespace Go.Proofs.YtfolidlmgfhkiaaGreat
open Go.RowKit
section
variable {P:Program} {w:World} {t ty et:TypeId} {bytes:Nat} {p:VL->Prop} {e:List CT} {X Y:NP} {K base n c d:Nat} {A:OA} {ad:Addr}
theorem OwP.butlast (h:OwP w base et p e X K A (n+1) c) (hA:A≠none):OwP w base et p e X K A n c:=by
 obtain ⟨xs,ho,hx⟩:=h;refine ⟨xs.take (n*e.length),⟨?_,?_⟩,fun k hk=>?_⟩
 ·rw [List.length_take,ho.1];have:n*e.length<=(n+1)*e.length:=Nat.mul_le_mul_right _ (Nat.le_succ n);omega
 ·rcases ho.2 with ⟨h',_⟩ | ⟨g,cap,cur,hv,hg,hr,hn,hm,hs,ht⟩
  ·injection h' with h1 h2 h3;exact absurd h1 hA
  injection hv with h1 _ h3;subst h1 h3;refine .inr ⟨g,_,cur,rfl,hg,hr,o_,hm,hs,?_⟩;rw [←ht,List.take_take,Nat.min_eq_left (Nat.mul_le_mul_right _ (Nat.le_succ n))]
 obtain ⟨vs,h1,h2,h3⟩:=hx k o_;have A0:(Value.slice A (n+1) c).ownBlock=(Value.slice A n c).ownBlock:=by cases A <;> rfl
 rw [A0] at h1;refine ⟨vs,h1,fun j u hu=>?_,h3⟩;rw [List.getElem?_take,if_pos]
 ·exact h2 j u hu
 have hj:j<e.length:=by rw [←h1.1];exact (e_ hu).1
 have:(k+1)*e.length<=n*e.length:=Nat.mul_le_mul_right _ hk;rw [Nat.add_mul] at this;omega
theorem app1 (ty:TypeId) (E:EI P t et e bytes) (hown:OwP w base et p e X K A n c) (hsrc:SlP w (Wi X (Value.slice A n c).ownBlock) K p e (some ad) 1 d) (hX:∀ k,X k->k<w) (h63:n+1<=maxLen) (hbytes:(n+1)*bytes<=140737488355328) (hbase:base<=w) :
  ∃ A' c' w',(Builtin.append_ #[t,t] ty #[.slice A n c,.slice (some ad) 1 d]).run P w=.ok (.slice A' (n+1) c') w'/\OwP w' base et p e X K A' (n+1) c'/\w.grownBy w' (Value.slice A n c).ownBlock/\OwP w' base et p e X K A n c/\((A'=A/\A≠none/\c'=c)∨(Below w w w'/\∀ g,(Value.slice A' (n+1) c').ownBlock=some g->g=w)):=by
 obtain ⟨i,z,hi,hz,A0,A5,A6⟩:=E.hi;have hO:=hown;obtain ⟨xs,h1,h2⟩:=hown;obtain ⟨news,n1,n2,n3,n4,n5⟩:=hsrc.news;obtain ⟨A',c',w',hr,g1,g2,g3⟩:=da_ (P:=P) w base t ty et i z e.length bytes E.ht hi hz A0 A5 A6 E.hsz _ n xs h1 (some ad) 1 d news n2 n1 n3 n4 h63 hbytes hbase;have o6:=own_appendP ⟨h1,h2⟩ n1 n5 hX g1 g2 g3;refine ⟨A',c',w',hr,o6,g2,?_⟩;rcases h1.2 with ⟨hA,hn⟩ | ⟨g,cap,cur,hv,hbg,hg,hnc,hcm,hcs,htake⟩
 ·injection hA with q1 q2 q3;subst q1 q2 q3;refine ⟨OwP.nil _ _ _ _ _ _ _,.inr ⟨am_ g2 (l_) (fun k hk=>by cases hk),fun g hg=>?_⟩⟩;rcases g3 g hg with h | h
  ·cases h
  exact h
 injection hv with q1 _ q3;subst q1 q3;by_cases hroom:n+1<=c
 ·have A3:n*i.size+news.length<=cur.size:=by rw [n1,A0,hcs,←Nat.add_mul];exact Nat.mul_le_mul_right _ hroom
  have A4:=run_append_room (P:=P) w t ty et i E.ht hi g n c cur hg ad 1 d news (by rw [A0];exact n1) (n3 ad rfl) n4 hroom A3;rw [A4] at hr;injection hr with e1 e2;injection e1 with e1 e3 e4;subst e1 e4;exact ⟨o6.butlast x_,.inl ⟨rfl,x_,rfl⟩⟩
 have A1:∀ j u,xs[j]?=some u->w.cell? (((a_ g):Addr).add j)=some u:=h1.cells (g:=g) rfl;have A4:=run_append_grow (P:=P) w t ty et i z E.ht hi hz (a_ g) n c xs (by rw [A0];exact h1.1) A1 ad 1 d news (by rw [A0];exact n1) (n3 ad rfl) o_ (by unfold maxLen at h63;omega) (by rw [A5];exact growslice_fits o_ hbytes);rw [A4] at hr;injection hr with e1 e2;injection e1 with e1 e3 e4;have hb:Below w w w':=by rw [←e2];exact (Below.drew (b_)).alloc (l_) _
 refine ⟨hO.below hb,.inr ⟨hb,fun g' A2=>?_⟩⟩;rw [←e1] at A2;injection A2 with A2;exact A2.symm
theorem OwP.re (h:OwP w base et p e X K A n c) {base':Nat} (hb:∀ g,(Value.slice A n c).ownBlock=some g->base'<=g) (hY:∀ k,k<w.heap.size->Y k->X k∨(Value.slice A n c).ownBlock=some k):OwP w base' et p e Y K A n c:=by
 obtain ⟨xs,ho,hx⟩:=h;refine ⟨xs,⟨ho.1,?_⟩,fun k hk=>?_⟩
 ·rcases ho.2 with h' | ⟨g,cap,cur,hv,hg,hr⟩
  ·exact .inl h'
  injection hv with h1 _ h3;subst h1 h3;exact .inr ⟨g,_,cur,rfl,hb g rfl,hr⟩
 obtain ⟨vs,h1,h2,h3⟩:=hx k hk;exact ⟨vs,h1.less (fun q hq hy=>by rcases hy with hy | hy;(rcases hY q hq hy with h | h;exact .inl h;exact .inr h);exact .inr hy),h2,h3⟩
end
end Go.Proofs.YtfolidlmgfhkiaaGreat
namespace Go.Proofs.YtfolidlmgfhkiaaGreat
open Go.RowKit Go.Proofs.Tryz
structure RwF (d b:Nat) (X4 X2:NP) (base g:Nat) (B:OA) (m c:Nat) (W:World):Prop where
 zx:∀ k,Zm d b k->X2 k
 x2:∀ k,X2 k->X4 k
 x4:∀ k,X4 k->X2 k∨(Value.slice B m c).ownBlock=some k
 ow:∀ k,(Value.slice B m c).ownBlock=some k->X4 k
 lo:∀ k,X2 k->k<base
 gn:(Value.slice B m c).ownBlock≠some g
 gz:b<g
 Wb:W<=base
 m4:m<=18
structure InvW (d b lp:Nat) (X4:NP) (W:World) (g:Nat) (CS:VL) (base D:Nat) (B:OA) (m c:Nat) (w:World):Prop where
 ok:Mk d b lp w
 kp:Kp (Zm d b) W w
 lt:∀ k,X4 k->k<w
 bx:Bx w g CS
 ow:OwP w base 212 pS (al_ D) X4 20 B m c
 bs:base<=w
def EvW (X2:NP) (D:Nat) (B:OA) (m c:Nat) (w:World):Prop:=SlP w X2 20 pS (al_ D) B (m+1) c
section
variable {d b lp:Nat} {X4 X2:NP} {base g:Nat} {B:OA} {m c D:Nat} {W:World} {CS:VL}
theorem InvW.ic (h:RwF d b X4 X2 base g B m c W):IC d b lp ⟨X4,EvW X2 D B m c⟩ (InvW d b lp X4 W g CS base D B m c) :=
 ⟨fun _ h=>h.ok,fun k hk=>h.x2 k (h.zx k hk),fun _ h=>h.lt,fun w w' hI hm hk=>⟨hm,hI.kp.trans hk,fun k A0=>lt_ (hI.lt k A0) hk.size,hI.bx.kp hk (fun hz=>by have:=hm.ne;have:=h.gz;rcases hz with e | e <;> omega),hI.ow.kpz hk (fun k hk=>h.x2 k (h.zx k hk)) (fun k hk=>h.lo k (h.zx k hk)),Nat.le_trans hI.bs hk.size⟩,fun w w' _ hk he=>SlP.kept he (hk.mono (fun k _ hk=>h.zx k hk)) (fun _ _ h=>h) (l_)⟩
def AppV (X4 X2:NP) (D:Nat) (B:OA) (m c:Nat) (w:World) (A':OA) (n' c':Nat):Prop:=n'<=19/\(SlP w X4 20 pS (al_ D) A' n' c'∨(A'=B/\n'=m+1/\c'=c/\EvW X2 D B m c w))
theorem AppV.st {w w':World} {A':OA} {n' c':Nat} (h:AppV X4 X2 D B m c w A' n' c') (hk:Kp X4 w w') (he:EvW X2 D B m c w->EvW X2 D B m c w'):AppV X4 X2 D B m c w' A' n' c':=by
 refine ⟨h.1,?_⟩;rcases h.2 with h | ⟨h1,h2,h3,h4⟩
 ·exact .inl (h.kept hk (fun _ _ h=>h) (l_))
 exact .inr ⟨h1,h2,h3,he h4⟩
theorem AppV.slP {w:World} {A':OA} {n' c':Nat} (h:AppV X4 X2 D B m c w A' n' c') (hx:∀ k,X2 k->X4 k):SlP w X2 20 pS (al_ D) A' n' c':=by
 rcases h.2 with h | ⟨rfl,rfl,rfl,h⟩
 ·exact h.less (fun k _ hk=>hx k hk)
 exact h
def kApp (X4 X2:NP) (D:Nat) (B:OA) (m c:Nat):SK ⟨X4,EvW X2 D B m c⟩:=⟨fun w u=>∃ A' n' c',u=.slice A' n' c'/\AppV X4 X2 D B m c w A' n' c',fun w w' u hk he ⟨A',n',c',e,h⟩=>⟨A',n',c',e,h.st hk he⟩⟩
def kWhile (X4 X2:NP) (D:Nat) (B:OA) (m c:Nat):SK ⟨X4,EvW X2 D B m c⟩:=⟨fun w u=>∃ A' n' c' E1 ec,u=.agg (stL 6 ⟨#[]⟩ ⟨#[]⟩ 0 0 E1 1 ec A' n' c' none 0 0).toArray/\SlP w X4 20 pE (ay_ dE) E1 1 ec/\AppV X4 X2 D B m c w A' n' c',fun w w' u hk he ⟨A',n',c',E1,ec,e,h1,h⟩=>⟨A',n',c',E1,ec,e,h1.kept hk (fun _ _ h=>h) (l_),h.st hk he⟩⟩
def kSt1 (X:XE) (D:Nat):SK X:=⟨fun w u=>∃ nb,u=.slice (some (a_ nb)) 1 1/\SlP w X 20 pS (al_ D) (some (a_ nb)) 1 1,fun w w' u hk _ ⟨nb,e,h⟩=>⟨nb,e,h.kept hk (fun _ _ h=>h) (l_)⟩⟩
end
section
variable {Q:Exit->Act->World->Prop} {X:XE} {Inv:World->Prop} {o:Oper} {a:Act} {w:World} {d b lp:Nat}
theorem rk_st1 {x:Operand} {e:Nat} (hC:IC d b lp X Inv) (ho:o.op=.buildSlice 192 1 #[(0,x)]) (hx:(kSt X e).p w (a.eval x)) (hI:Inv w):RnK prog Q X Inv (kSt1 X e) o a w:=by
 obtain ⟨kd,s,f,n,op,A,m,c,B,m1,c1,C,m2,c2,hx,h1⟩:=hx;generalize hr:a.eval=r at hx;refine rk_to (v:=.slice (some (a_ w)) 1 1) (w':=w.alloc (.cells (stL kd s f n op A m c B m1 c1 C m2 c2).toArray 212)) (by rw [hr];simp [execOp,ho,hx,go_sem];rfl) (.of_below (av_ w _ _)) (hC.ex w _ hI (.of_below (av_ w _ _))) ?_ (hC.below hI (av_ w _ _));exact ⟨_,rfl,SlP.one (Bx.new w _ _) (fun h=>by have:=hC.lt w hI _ h;omega) d_ (h1.1.up (.of_below (av_ w _ _)) (l_)) h1.2⟩
end
section
variable {Q:Exit->Act->World->Prop} {o:Oper} {a:Act} {w:World} {d b lp:Nat} {X4 X2:NP} {base g:Nat} {B:OA} {m c D:Nat} {W:World} {CS:VL}
theorem rk_app {x y:Operand} (h:RwF d b X4 X2 base g B m c W) (ho:o.op=.call { callee:=.builtin .append,args:=#[x,y],argTypes:=#[192,192] }) (hx:a.eval x=.slice B m c) (hy:(kSt1 ⟨X4,EvW X2 D B m c⟩ D).p w (a.eval y)) (hI:InvW d b lp X4 W g CS base D B m c w):RnK prog Q ⟨X4,EvW X2 D B m c⟩ (InvW d b lp X4 W g CS base D B m c) (kApp X4 X2 D B m c) o a w:=fun K hK=>by
 obtain ⟨nb,hy,hs⟩:=hy;have A3:SlP w (Wi X4 (Value.slice B m c).ownBlock) 20 pS (al_ D) (some (a_ nb)) 1 1:=hs.less (fun k _ hk=>by rcases hk with hk | hk;exact hk;exact h.ow k hk);have A5:=h.m4;obtain ⟨A',c',w',hr,o6,gb,oo,A0⟩:=app1 o.type ei_stmt hI.ow A3 hI.lt m_ o_ hI.bs;have A1:∀ k,(Value.slice B m c).ownBlock=some k->base<=k/\k<w:=fun k hk=>hI.ow.blk hk
 have A2:Kp X4 w w':=(Kp.refl _ w).grown gb (fun k hk=>.inl (h.ow k hk));unfold Oper.wp execOp;simp only [ho,resolve,invoke,builtin,Sem.run_bind,Sem.run_pure,Result.andThen_ok,List.map_toArray,List.map_cons,List.map_nil,hx,hy,hr];have A4:b<W∨True:=.inr trivial;refine hK _ _ A2 (fun he=>?_) ⟨hI.ok.grown gb (fun k hk=>by have:=A1 k hk;have:=h.lo b (h.zx b (.inr rfl));omega),hI.kp.grown gb (fun k hk=>.inr (by have:=A1 k hk;have:=h.Wb;omega)),fun k hk=>lt_ (hI.lt k hk) gb.size,?_,oo,Nat.le_trans hI.bs gb.size⟩ ⟨A',m+1,c',rfl,o_,?_⟩
 ·rcases A0 with ⟨rfl,hB,rfl⟩ | ⟨hb,_⟩
  ·exact (o6.re (base':=base) (Y:=X2) (fun q hq=>(o6.blk hq).1) (fun k _ hk=>.inl (h.x2 k hk))).slP (fun k hk=>h.lo k hk) o_
  exact SlP.kept he (.of_below hb) (fun _ _ h=>h) (l_)
 ·exact hI.bx.kp (X:=fun k=>(Value.slice B m c).ownBlock=some k) ((Kp.refl _ w).grown gb (fun k hk=>.inl hk)) h.gn
 rcases A0 with ⟨rfl,hB,rfl⟩ | ⟨hb,hn⟩
 ·exact .inr ⟨rfl,rfl,rfl,(o6.re (base':=base) (Y:=X2) (fun q hq=>(o6.blk hq).1) (fun k _ hk=>.inl (h.x2 k hk))).slP (fun k hk=>h.lo k hk) o_⟩
 exact .inl ((o6.re (base':=w) (Y:=X4) (fun q hq=>by rw [hn q hq];exact l_) (fun k _ hk=>.inl hk)).slP hI.lt o_)
theorem rk_while {x y:Operand} {Inv:World->Prop} (ho:o.op=.build 212 #[(0,.const (i_ 6)),(5,x),(6,y)]) (hx:(kExs ⟨X4,EvW X2 D B m c⟩ dE 1).p w (a.eval x)) (hy:(kApp X4 X2 D B m c).p w (a.eval y)) (hI:Inv w):RnK prog Q ⟨X4,EvW X2 D B m c⟩ Inv (kWhile X4 X2 D B m c) o a w:=by
 obtain ⟨E1,ec,hx,h1⟩:=hx;obtain ⟨A',n',c',hy,h2⟩:=hy;have e0:a.eval (.const (i_ 6))=i_ 6:=rfl;generalize hr:a.eval=r at hx hy e0;exact bt_ (v:=.agg (stL 6 ⟨#[]⟩ ⟨#[]⟩ 0 0 E1 1 ec A' n' c' none 0 0).toArray) (by rw [hr];simp [execOp,ho,hx,hy,e0,go_sem,stL]) ⟨A',n',c',E1,ec,rfl,h1,h2⟩ hI
end
structure FinV (d b lp:Nat) (X2:NP) (W:World) (g D:Nat) (w:World):Prop where
 ok:Mk d b lp w
 kp:Kp (Zm d b) W w
 bx:∃ cs,Bx w g cs/\VTs w X2 20 (al_ (D+1)) cs/\pS cs
theorem Mk.setsO {d b lp rb:Nat} {w:World} (h:Mk d b lp w) (hr:b<rb) (o:Nat) (vs:VL):Mk d b lp (w.setCells rb o vs):=by
 have hk:Kp (fun k=>k=rb) w (w.setCells rb o vs):=ai_ _ _ _ (Kp.refl _ _) (.inl rfl);obtain ⟨l,h1⟩:=h.c1;obtain ⟨f,h3⟩:=h.c3;have hd:=h.ne;have hc:∀ q j,q<=b->(w.setCells rb o vs).cell? (f_ q j)=w.cell? (f_ q j):=fun q j hq=>hk.cell (by have:=h.lt;omega) o_
 refine ⟨?_,hd,lt_ h.lt hk.size,(hc _ _ (l_)).trans h.c0,⟨l,(hc _ _ (l_)).trans h1⟩,(hc _ _ (l_)).trans h.c2,⟨f,(hc _ _ (l_)).trans h3⟩,fun j=>(hk.frozen h.lt o_).trans (h.fz j)⟩;obtain ⟨A0,S,sn,sc,a,g0,g1,g2,g3,g4,g5⟩:=h.dice;refine ⟨lt_ A0 hk.size,S,sn,sc,a,(hc _ _ o_).trans g0,(hc _ _ o_).trans g1,(hk.frozen A0 o_).trans g2,g3,g4,fun i hi=>?_⟩;obtain ⟨sb,so,x,e,h6,h7,h8,h9⟩:=g5 i hi;exact ⟨sb,so,x,e,h6,h7,h8,(hc _ _ o_).trans h9⟩
theorem ForV.put {d b lp:Nat} {w0 w:World} {g eb:Nat} {s:ByteArray} (h:ForV d b lp w0 g eb s w) (n:Int):ForV d b lp w0 g eb s (w.setCells eb 5 (lfL n)):=by
 obtain ⟨n1,n2,hb⟩:=h.be;have:=h.bl;have:=h.el;refine ⟨h.ok.setsO o_ 5 _,ai_ _ _ _ h.kp (.inr h.el),h.bl,h.gl,h.el,h.ne,h.bx.others (Ne.symm h.ne) _,n1,n,?_⟩;have h2:=hb.put 5 (lfL n) (Nat.le_refl 10);exact h2
theorem for_vts {w:World} {X2:NP} {eb:Nat} {i1 i2:Int} {s:ByteArray} {B:OA} {m c D:Nat} (hb:Bx w eb (lfL i1 ++ lfL i2)) (he:¬X2 eb) (hs:s.size<=100) (hB:SlP w X2 20 pS (al_ D) B m c) :
  VTs w X2 20 (al_ (D+1)) (stL 5 s ⟨#[]⟩ 0 0 (some (a_ eb)) 2 2 B m c none 0 0)/\pS (stL 5 s ⟨#[]⟩ 0 0 (some (a_ eb)) 2 2 B m c none 0 0):=by
 have p:∀ i,pE (lfL i):=fun i=>pE_ex x_ x_ d_
 have v:∀ i,VTs w X2 20 (ay_ dE) (lfL i):=fun i=>exprT_le (Nat.zero_le _) (vts_ex0 _ _ _ _) (p i)
 exact ⟨vts_st (SlP.two hb he d_ (v _) (p _) (v _) (p _)) hB (SlP.nil _ _ _ _ _),pS_st (fun _=>l_) x_ x_ hs d_⟩
end Go.Proofs.YtfolidlmgfhkiaaGreat
namespace Go.Proofs.YtfolidlmgfhkiaaGreat
open Go.RowKit
theorem Fr.cv_ {X Z:NP} {w0 w w':World} {L:List LV} {Y:NP} {C:Nat->VL} {i j b:Nat} {K:Nat->Nat} {ts:List CT} {ow:Nat->Option TypeId} {t:CT} {et:TypeId} {v:Value} (h:Fr X Z w0 L Y C w) (hp:L[i]?=some ⟨b,K,ts,ow⟩) (hj:ts[j]?=some t) (ho:ow j=some et) (hC:(C b)[j]?=some v) (hg:w.grownBy w' v.ownBlock):Bx w' b (C b):=by
 obtain ⟨e,A,n,c,h1,h2,h3,h4,h5⟩:=h.row _ (Fr.mem hp) j t et hj ho;rw [show (C b)[j]?=some (.slice A n c) from h2] at hC;injection hC with hC;subst hC;exact (h.box hp).kp (X:=fun k=>(Value.slice A n c).ownBlock=some k) ((Kp.refl _ w).grown hg (fun g hg=>.inl hg)) (fun he=>(h5 b he).2.2 _ (Fr.mem hp) rfl)
theorem Fr.grown_any {X Z:NP} {w0 w w':World} {L:List LV} {Y:NP} {C:Nat->VL} {i j b:Nat} {K:Nat->Nat} {ts:List CT} {ow:Nat->Option TypeId} {t:CT} {et:TypeId} {v:Value} (h:Fr X Z w0 L Y C w) (hp:L[i]?=some ⟨b,K,ts,ow⟩) (hj:ts[j]?=some t) (ho:ow j=some et) (hC:(C b)[j]?=some v) (hg:w.grownBy w' v.ownBlock) (q:Nat) (p:LV) (hq:L[q]?=some p):Bx w' p.b (C p.b):=by
 obtain ⟨e,A,n,c,h1,h2,h3,h4,h5⟩:=h.row _ (Fr.mem hp) j t et hj ho;rw [show (C b)[j]?=some (.slice A n c) from h2] at hC;injection hC with hC;subst hC;exact (h.blk p (List.mem_of_getElem? hq)).2.2.1.kp (X:=fun k=>(Value.slice A n c).ownBlock=some k) ((Kp.refl _ w).grown hg (fun g hg=>.inl hg)) (fun he=>(h5 p.b he).2.2 _ (List.mem_of_getElem? hq) rfl)
theorem OwT.any {w:World} {base K n c:Nat} {et:TypeId} {e:List CT} {X:NP} {A:OA} (h:OwT w base et e X K A n c) (hn:n<=K):SlT w (fun _=>False) K e A n c :=
 (h.sub (Y':=fun _=>False) (fun _ _ h=>h.elim) (l_)).slT (fun _ h=>h.elim) hn
theorem results0 {P:Program} {fn:Func} (h:fn.results=#[]) (tmps:Array Value) (w:World):(results fn tmps).run P w=.ok (.tuple #[]) w:=by
 unfold results;rw [h];simp
theorem end0 {P:Program} {fn:Func} {R:Ending->World->Prop} {a:Act} {w:World} (hr:fn.results=#[]) (hd:a.defers=[]) (hR:R (.returned (.tuple #[])) w):bodyPost P fn R .normal a w:=bodyPost_end (results0 hr _ _) hd hR
theorem ret0 {P:Program} {fn:Func} {R:Ending->World->Prop} {a:Act} {w:World} (hr:fn.results=#[]) (hd:a.defers=[]) (hR:R (.returned (.tuple #[])) w):bodyPost P fn R .ret a w:=bodyPost_ret (results0 hr _ _) hd hR
end Go.Proofs.YtfolidlmgfhkiaaGreat
namespace Go.Proofs.YtfolidlmgfhkiaaGreat
open Go.RowKit Go.Proofs.Tryz
theorem infoStr:(prog.info? 9).map (fun i=>(i.zero,i.size,i.bytes))=some (some (.string ⟨#[]⟩),1,16):=by kernel_rfl
theorem ei_strP:EI prog 188 9 [.sat strP] 16:=EI.of (z:=.string ⟨#[]⟩) underlying188 infoStr rfl d_
theorem slt_strs {w:World} {X:NP} {g n:Nat} (hg:g<w) (hX:¬X g) (hn:n<=20) (hc:∀ i,i<n->∃ s:ByteArray,w.cell? (f_ g i)=some (.string s)/\s.size<=100):SlT w X 20 [.sat strP] (some (a_ g)) n n:=by
 refine ⟨hn,l_,o_,x_,fun ad h=>?_⟩;injection h with h;subst h;obtain ⟨l,hl,hR⟩:=list_choose (n:=n) (R:=fun i (s:ByteArray)=>w.cell? (f_ g i)=some (.string s)/\s.size<=100) hc;refine ⟨g,0,rfl,hg,hX,fun k _=>.string ((l[k]?).getD ⟨#[]⟩),fun k j t hk hj=>?_,fun k j t hk hj=>?_⟩
 ·have A0:j=0:=by have:=(e_ hj).1;simp at this;omega
  subst A0;obtain ⟨h1,h2⟩:=hR k _ (ge_ (by omega:k<l.length));have e:(l[k]?).getD ⟨#[]⟩=l[k]:=by rw [ge_ (by omega:k<l.length),Option.getD_some]
  show _=some (Value.string ((l[k]?).getD ⟨#[]⟩))
  rw [e]
  simpa using h1
 have A0:j=0:=by have:=(e_ hj).1;simp at this;omega
 subst A0;injection hj with hj;subst hj;obtain ⟨h1,h2⟩:=hR k _ (ge_ (by omega:k<l.length));have e:(l[k]?).getD ⟨#[]⟩=l[k]:=by rw [ge_ (by omega:k<l.length),Option.getD_some]
 show VT w X 20 (.sat strP) (Value.string ((l[k]?).getD ⟨#[]⟩))
 rw [e];exact .sat _ _ rfl ⟨_,rfl,h2⟩
theorem SlT.str_at {w:World} {X:NP} {K n c k:Nat} {A:OA} (h:SlT w X K [.sat strP] A n c) (hk:k<n):∃ g o,∃ s:ByteArray,A=some (f_ g o)/\g<w/\s.size<=100/\w.cell? ⟨g,o+k,none⟩=some (.string s):=by
 obtain ⟨g,o,hA,hg,hX,us,hv,hm⟩:=h.mt hk;obtain ⟨u,hu,ht⟩:=hv.2 0 (.sat strP) rfl;obtain ⟨t,rfl,A0⟩:strP u:=by cases ht;assumption
 exact ⟨g,o,t,hA,hg,A0,by have:=hm 0 _ hu;simpa using this⟩
theorem first_m (X:NP) (D:Nat) (A:OA) (n c:Nat) (g:Nat) (w:World) (hX:∀ k,X k->k<w) (hl:SlP w X 20 pS (al_ D) A n c) (hn:n<=9) (hg:g<w) (hgX:¬X g) (hc:∀ i,i<3->∃ s:ByteArray,w.cell? (f_ g i)=some (.string s)/\s.size<=100) :
  Calls prog 115 #[.slice A n c,.slice (some (a_ g)) 3 3] w fun e w'=>RLO X w D (n+8) e w'/\Below w w w':=by
 have HL:=q_ hl;have HX:=q_ hX;have HG:=q_ (slt_strs hg hgX d_ hc);clear hl hX hc;go_enter func115,ntmps115;go_upto_region 2 with fail;go_upto_region 3 with (first
  | (go_at_call 167;refine (names_m w).mono ?_;rintro e w1 ⟨rfl,Ar,A0,Ac⟩;have HN:=q_ (slt_strs (X:=X) (w:=w1) (g:=w) (n:=5) o_ (fun h=>by have:=HX.o _ h;omega) d_ Ac);have Aa:=q_ A0;have Af:=q_ (HG.o.up (Kp.of_below A0) (l_));have Am:=h_ (∀ k,X k->k<w1) (fun k hk=>by have:=HX.o k hk;omega);clear Ac A0)
  | (at_builtin;refine wpList_append_sh rfl _ _ rfl ei_strP X 20 _ 5 5 v_ HN.o _ 3 3 v_ Af.o (.inr d_) Am.o d_ m_ d_ ?_;intro A2 c2 w2 Ad A1)
  | fail)
 have A7:=q_ (Aa.o.trans (A1.mono Aa.o.size));have Ai:=q_ Ad;have A3:(w:Nat)<=w2:=A7.o.size;clear Ad A1;go_upto_block 0 with fail;go_loopw [5,12] (fun o iv wr=>∃ (A':OA) (m c':Nat),m<=8/\o=.slice A' m c'/\iv=i_ m/\Hid (OwP wr w2 212 pS (al_ D) X 20 A' m c')/\Hid (Below w2 w2 wr)) (fun _ iv _=>8 - (intOf iv).toNat)
 case atStart=>exact ⟨none,0,0,o_,rfl,rfl,q_ (OwP.nil _ _ _ _ _ _ _),q_ (b_)⟩
 obtain ⟨A',m,c',hm,rfl,rfl,HO,HB⟩:=hrel;have Ap:(w2:Nat)<=wr:=HB.o.size;have A4:=h_ (∀ k,X k->k<wr) (fun k hk=>by have:=HX.o k hk;omega);by_cases hlt:m<8
 ·have A8:(m:Int)<8:=by omega
  obtain ⟨sg,so,s,rfl,Aq,Ao,An⟩:=(Ai.o.up (Kp.of_below HB.o) (l_)).str_at hlt;go_upto_region 5 with fail;clear An;go_wp2_with fail;refine (num_m 0 wr).mono ?_;rintro e v1 ⟨rfl,A0⟩;have B1:=q_ A0;have E1:=h_ (ExV v1 (Wi X (Value.slice A' m c').ownBlock) dE 1 0 ⟨#[]⟩ 0 none 0 0) (⟨exprT_le (Nat.zero_le _) (vts_ex0 _ _ _ _) (pE_ex x_ x_ d_),pE_ex x_ x_ d_⟩);have O1:=q_ (HO.o.below A0);have X1:=h_ (∀ k,Wi X (Value.slice A' m c').ownBlock k->k<v1) (fun k hk=>by
   have:=A0.size
   rcases hk with hk | hk
   ·have:=A4.o k hk;omega
   have:=(HO.o.blk hk).2;omega)
  clear A0;go_wp2_with fail;refine (set_m (Wi X (Value.slice A' m c').ownBlock) s 1 0 ⟨#[]⟩ 0 none 0 0 v1 Ao E1.o X1.o).mono ?_;rintro e v2 ⟨⟨kd,s2,f,n',op,E,em,ec,B,m1,c1,C,m2,c3,rfl,hv⟩,A1⟩;have B2:=q_ (B1.o.trans (A1.mono B1.o.size));have V2:=h_ (VTs v2 (Wi X (Value.slice A' m c').ownBlock) 20 (al_ D) (stL kd s2 f n' op E em ec B m1 c1 C m2 c3)/\pS (stL kd s2 f n' op E em ec B m1 c1 C m2 c3)) (⟨stmtT_le (Nat.zero_le _) hv.o.1 hv.o.2,hv.o.2⟩);have O2:=q_ (O1.o.below A1);have BN:=q_ (Bx.new v2 (stL kd s2 f n' op E em ec B m1 c1 C m2 c3) 212);obtain ⟨U,hU⟩:=ex_ (v2.alloc (.cells (stL kd s2 f n' op E em ec B m1 c1 C m2 c3).toArray 212));rw [←hU] at BN;have A5:Below v2 v2 U:=by rw [hU];exact av_ _ _ _
  have A3:(wr:Nat)<=v2:=B2.o.size;have O3:=q_ (O2.o.below A5);have Ab:=h_ (Below wr wr U) (B2.o.trans (A5.mono A3));have As:(wr:Nat)<=U:=Ab.o.size;have Aj:=h_ (SlP U (Wi X (Value.slice A' m c').ownBlock) 20 pS (al_ D) (some (a_ v2)) 1 1) (SlP.one BN.o (fun h=>by rcases h with h | h;(have:=A4.o _ h;omega);(have:=(O2.o.blk h).2;omega)) d_ (V2.o.1.up (.of_below A5) (l_)) V2.o.2);have Al:=h_ (∀ k,X k->k<U) (fun k hk=>by have:=A4.o k hk;omega);have Ak:=h_ (U=v2.alloc (.cells #[i_ kd,.string s2,.string f,i_ n',i_ op,.slice E em ec,.slice B m1 c1,.slice C m2 c3] 212)) hU;clear hv A1 hU A5;go_wp2_with (at_builtin;rw [←Ak.o];refine dv_ rfl _ _ rfl ei_stmt v_ O3.o v_ Aj.o Al.o m_ o_ o_ ?_;intro A6 c6 w6 o6 g6 l6);have A9:∀ k,(Value.slice A' m c').ownBlock=some k->w2<=k/\k<U:=fun k hk=>O3.o.blk hk
  have Ae:=q_ ((HB.o.trans (Ab.o.mono Ap)).grown g6 o_ (fun k hk=>(A9 k hk).1));have Ah:=q_ o6;clear o6 g6 l6;go_roundw
  case rel=>exact ⟨A6,m+1,c6,o_,rfl,by go_num,Ah,Ae⟩
  case measure=>simp [intOf];omega
 have A8:¬(m:Int)<8:=by omega
 obtain rfl:m=8:=by omega
 have Ag:=h_ (SlP wr (Wi X (Value.slice A' 8 c').ownBlock) 20 pS (al_ D) A n c) (HL.o.kept (.of_below (A7.o.trans (HB.o.mono A3))) (fun k hk h1 h2=>by rcases h2 with h2 | h2;exact h1 h2;(have:=(HO.o.blk h2).1;omega)) (l_));go_upto_region 7 with fail;go_wp2_with (at_builtin;refine dv_ rfl _ _ rfl ei_stmt v_ HO.o v_ Ag.o A4.o m_ o_ o_ ?_;intro A6 c6 w6 o6 g6 l6);go_ret;exact ⟨⟨A6,8+n,c6,rfl,o_,fun h=>o_,q_ (o6.mono A3)⟩,(A7.o.trans (HB.o.mono A3)).grown g6 o_ (fun k hk=>by have:=(HO.o.blk hk).1;omega)⟩
end Go.Proofs.YtfolidlmgfhkiaaGreat
