/- Lemmas: each says what a function of the program leaves, under the conditions that it states. -/
import Derived.Test.YtfolidlmgfhkiaaGreatZ13
set_option linter.unusedVariables false
set_option linter.unusedSimpArgs false
set_option maxRecDepth 100000
set_option maxHeartbeats 4000000
namespace Go.Proofs.YtfolidlmgfhkiaaGreat
open Go.RowKit
section
variable {P:Program} {ops:Array Oper} {Q:Exit->Act->World->Prop} {X:XE} {Inv:World->Prop} {ks:Nat->SK X} {a0 a:Act} {w w':World} {listed:Array Bool}
theorem list_kz {n:Nat} {ol:Oper} (hw:wfOps ops a0.tmps.size=true) (hn:ops.size=n+1) (hol:ops[n]?=some ol) (hs:StepZ P ops Q Inv ks a0 n) (hl:LastZ P ops Q Inv ks a0 n ol) :
  ∀ (rest:List Oper) (k:Nat) (listed:Array Bool) (a:Act) (w:World),ops.toList.drop k=rest->k<=n->listed.size=ops.size->(∀ j,j<ops.size->(listed.getD j true=true↔j<k))->SI ops ks Inv a0 listed a w->wpList P ops Q rest a w:=by
 intro rest
 induction rest with
 | nil =>
  intro k listed a w hd hk hz A7 h;have:=congrArg List.length hd;simp at this;omega
 | cons o rest ih =>
  intro k listed a w hd A6 hz A4 h;have ho:ops[k]?=some o:=by
   have:(ops.toList.drop k)[0]?=some o:=by rw [hd];rfl
   rw [List.getElem?_drop] at this
   simpa using this
  have A8:=(Array.getElem?_eq_some_iff.1 ho).1;obtain ⟨hg,A0,_⟩:=wf_at hw ho;refine wpList_plain hg (fun K hK=>?_);by_cases e:k=n
  ·subst e;rw [hol] at ho;injection ho with ho;subst ho;have A2:rest=[]:=by
    have:=congrArg List.length hd;simp at this;exact List.eq_nil_of_length_eq_zero o_
   subst A2;exact hl a w h.inv h.sz h.df h.out (fun j oj t hj A1 ht=>h.ok j oj t ((A4 j (Array.getElem?_eq_some_iff.1 A1).1).2 (by have:=(Array.getElem?_eq_some_iff.1 A1).1;omega)) A1 ht) K (fun a' w' hq=>hK _ _ hq)
  refine hs k o e ho a w h.inv h.out (fun j hj oj t A1 ht=>h.ok j oj t ?_ A1 ht) K (fun v w' hk he A5 hv=>hK _ _ ?_)
  ·rw [List.any_eq_true] at hj;obtain ⟨e',he,A3⟩:=hj;rw [←Array.mem_def] at he;have A3:e'.on=j:=(by simpa using A3:Region.binds .any e'=true/\e'.on=j).2;subst A3;exact (A4 _ (by have:=A0 e' he;omega)).2 (A0 e' he)
  refine ih (k+1) (listed.setIfInBounds k true) _ _ ?_ o_ (by rw [Array.size_setIfInBounds];exact hz) (fun j hj=>?_) (h.step hw ho hk he A5 hv)
  ·rw [←List.tail_drop,hd];rfl
  rw [Array.getD_eq_getD_getElem?,Array.getElem?_setIfInBounds];by_cases e:k=j
  ·subst e;rw [if_pos rfl,if_pos o_];simp
  rw [if_neg e,←Array.getD_eq_getD_getElem?,A4 j hj];omega
theorem region_kzl {id:Nat} (n:Nat) {ol:Oper} (hw:wfOps ops a0.tmps.size=true) (hn:ops.size=n+1) (hol:ops[n]?=some ol) (h0:Inv w) (hs:StepZ P ops Q Inv ks a0 n) (hl:LastZ P ops Q Inv ks a0 n ol):(Code.region id ops false).wp P Q a0 w:=by
 refine wp_region_list (list_kz hw hn hol hs hl ops.toList 0 (Array.replicate ops.size false) a0 w rfl o_ t_ (fun j hj=>?_) ⟨h0,rfl,rfl,fun _ _=>rfl,fun i o t A0 ho _=>?_⟩)
 ·rw [Array.getD_eq_getD_getElem?,Array.getElem?_replicate,if_pos hj];simp
 exfalso;have A1:=(Array.getElem?_eq_some_iff.1 ho).1;rw [Array.getD_eq_getD_getElem?,Array.getElem?_replicate,if_pos A1] at A0;cases A0
end
section
variable {P:Program} {w:World} {t ty et:TypeId} {bytes:Nat} {p:VL->Prop} {e:List CT} {X Y:NP} {K base n m c d:Nat} {A B:OA}
theorem app_full (ty:TypeId) (E:EI P t et e bytes) (hown:OwP w base et p e X K A n c) (hsrc:SlP w X K p e B m d) (hf:m=0∨c<n+m) (hX:∀ k,X k->k<w) (h63:n+m<=maxLen) (hbytes:(n+m)*bytes<=140737488355328) (hbase:base<=w) :
  ∃ A' c' w',(Builtin.append_ #[t,t] ty #[.slice A n c,.slice B m d]).run P w=.ok (.slice A' (n+m) c') w'/\OwP w' base et p e X K A' (n+m) c'/\Below w w w':=by
 obtain ⟨i,z,hi,hz,A0,A5,A7⟩:=E.hi;have hO:=hown;obtain ⟨xs,h1,h2⟩:=hown;obtain ⟨news,n1,n2,n3,n4,n5⟩:=hsrc.news;by_cases hm:m=0
 ·subst hm;exact ⟨A,c,w,ci_ (P:=P) w t ty et i E.ht hi A n c (dc_ h1).1 B d,hO,b_⟩
 obtain ⟨ad,rfl⟩:∃ ad,B=some ad:=by
  cases B with
  | none=>exact absurd (n2 rfl) hm
  | some ad=>exact ⟨ad,rfl⟩
 obtain ⟨A',c',w',hr,g1,g2,g3⟩:=da_ (P:=P) w base t ty et i z e.length bytes E.ht hi hz A0 A5 A7 E.hsz _ n xs h1 (some ad) m d news n2 n1 n3 n4 h63 hbytes hbase;have A1:Below w w w'/\∀ g,(Value.slice A' (n+m) c').ownBlock=some g->g=w:=by
  rcases h1.2 with ⟨hA,hn⟩ | ⟨g,cap,cur,hv,hbg,hg,hnc,hcm,hcs,htake⟩
  ·injection hA with q1 q2 q3;subst q1 q2 q3;exact ⟨am_ g2 (l_) (fun k hk=>by cases hk),fun g hg=>by rcases g3 g hg with h | h;cases h;exact h⟩
  injection hv with q1 _ q3;subst q1 q3;have A3:∀ j u,xs[j]?=some u->w.cell? (((a_ g):Addr).add j)=some u:=h1.cells (g:=g) rfl;have A6:=run_append_grow (P:=P) w t ty et i z E.ht hi hz (a_ g) n c xs (by rw [A0];exact h1.1) A3 ad m d news (by rw [A0];exact n1) (n3 ad rfl) o_ (by unfold maxLen at h63;omega) (by rw [A5];exact growslice_fits o_ hbytes);rw [A6] at hr;injection hr with e1 e2;injection e1 with e1 e3 e4;refine ⟨by rw [←e2];exact (Below.drew (b_)).alloc (l_) _,fun g' A4=>?_⟩;rw [←e1] at A4;injection A4 with A4;exact A4.symm
 refine ⟨A',c',w',hr,⟨xs ++ news,g1,fun k hk=>?_⟩,A1.1⟩;have A2:xs.length=n*e.length:=h1.1;by_cases hkn:k<n
 ·obtain ⟨vs,v1,v2,v3⟩:=h2 k hkn;refine ⟨vs,v1.kept (.of_below A1.1) (fun q hq h3 h4=>?_) (l_),fun j u hu=>by rw [List.getElem?_append_left (e_ (v2 j u hu)).1];exact v2 j u hu,v3⟩;rcases h4 with h4 | h4
  ·exact h3 (.inl h4)
  have:=A1.2 q h4;omega
 obtain ⟨vs,v1,v2,v3⟩:=n5 (k - n) o_;refine ⟨vs,v1.kept (.of_below A1.1) (fun q hq h3 h4=>?_) (l_),fun j u hu=>?_,v3⟩
 ·rcases h4 with h4 | h4
  ·exact h3 h4
  have:=A1.2 q h4;omega
 have e1:k*e.length=n*e.length+(k - n)*e.length:=by rw [←Nat.add_mul];congr 1;omega
 rw [List.getElem?_append_right (by rw [A2];omega),A2,show k*e.length+j - n*e.length=(k - n)*e.length+j from by omega];exact v2 j u hu
end
theorem OwP.le {w:World} {base D D' n c:Nat} {et:TypeId} {X:NP} {A:OA} (h:OwP w base et pS (al_ D) X 20 A n c) (hD:D<=D'):OwP w base et pS (al_ D') X 20 A n c:=by
 obtain ⟨xs,ho,hx⟩:=h;refine ⟨xs,by rw [bz_] at ho ⊢;exact ho,fun k hk=>?_⟩;obtain ⟨vs,h1,h2,h3⟩:=hx k hk;exact ⟨vs,stmtT_le hD h1 h3,fun j u hu=>by have:=h2 j u hu;rw [bz_] at this ⊢;exact this,h3⟩
theorem OwP.lit {w:World} {X:NP} {p:VL->Prop} {e:List CT} {K n:Nat} (et:TypeId) (vss:List (VL)) (hn:vss.length=n) (hn0:0<n) (hm:n<=maxLen) (hv:∀ vs ∈ vss,VTs w X K e vs/\p vs) (hlt:∀ k,X k->k<w) :
  OwP (w.alloc (.cells vss.flatten.toArray et)) w et p e X K (some (a_ w)) n n:=by
 have A1:∀ (l:List (VL)),(∀ vs ∈ l,vs.length=e.length)->l.flatten.length=l.length*e.length:=by
  intro l
  induction l with
  | nil=>intro _;simp
  | cons a r ih =>
   intro h;rw [List.flatten_cons,List.length_append,h a (.head _),ih (fun vs A0=>h vs (.tail _ A0)),List.length_cons,Nat.add_mul,Nat.one_mul,Nat.add_comm]
 have A3:∀ (l:List (VL)),(∀ vs ∈ l,vs.length=e.length)->∀ (k j:Nat) (vs:VL) (u:Value),l[k]?=some vs->vs[j]?=some u->l.flatten[k*e.length+j]?=some u:=by
  intro l
  induction l with
  | nil=>intro _ k j vs u hk;simp at hk
  | cons a r ih =>
   intro h k j vs u hk hj;rw [List.flatten_cons];cases k with
   | zero =>
    simp at hk;subst hk;rw [Nat.zero_mul,Nat.zero_add,List.getElem?_append_left (e_ hj).1];exact hj
   | succ k =>
    rw [List.getElem?_append_right (by rw [h a (.head _),Nat.succ_mul];omega),h a (.head _),show (k+1)*e.length+j - e.length=k*e.length+j from by rw [Nat.succ_mul];omega];exact ih (fun vs A0=>h vs (.tail _ A0)) k j vs u (by simpa using hk) hj
 have hl:∀ vs ∈ vss,vs.length=e.length:=fun vs A0=>(hv vs A0).1.1
 refine ⟨vss.flatten,⟨by rw [A1 vss hl,hn],.inr ⟨w,n,vss.flatten.toArray,rfl,l_,heap_new w _,l_,hm,by rw [List.size_toArray,A1 vss hl,hn],?_⟩⟩,fun k hk=>?_⟩
 ·show vss.flatten.take _=_
  exact List.take_of_length_le (by rw [A1 vss hl,hn];exact l_)
 obtain ⟨vs,A0⟩:∃ vs,vss[k]?=some vs:=⟨_,ge_ o_⟩;have A2:=List.mem_of_getElem? A0;refine ⟨vs,?_,fun j u hu=>A3 vss hl k j vs u A0 hu,(hv vs A2).2⟩;refine (hv vs A2).1.kept (.of_below ((b_).alloc (l_) _)) (fun q hq h1 h2=>?_) (l_);rcases h2 with h2 | h2
 ·exact h1 h2
 injection h2 with h2;have:w=q:=h2;omega
end Go.Proofs.YtfolidlmgfhkiaaGreat
namespace Go.Proofs.YtfolidlmgfhkiaaGreat
open Go.RowKit Go.Proofs.Tryz
structure InvP (d b:Nat) (X:NP) (w0:World) (J:World->Prop) (w:World):Prop where
 ok:Mk d b 0 w
 kp:Kp (Zm d b) w0 w
 lt:∀ k,X k->k<w
 j:J w
section
variable {d b:Nat} {X:XE} {w0 w w':World} {J:World->Prop}
theorem InvP.ic (hz:∀ k,Zm d b k->X k) (hJ:∀ w w',Kp (Zm d b) w w'->J w->J w') (hE:∀ w,X.e w):IC d b 0 X (InvP d b X w0 J) :=
 ⟨fun _ h=>h.ok,hz,fun _ h=>h.lt,fun w w' h hm hk=>⟨hm,h.kp.trans hk,fun k A0=>lt_ (h.lt k A0) hk.size,hJ _ _ hk h.j⟩,fun _ w' _ _ _=>hE w'⟩
def kOt (X:XE) (B:Nat) (hB:∀ k,X k->k<B) (D q:Nat):SK X:=⟨fun w u=>∃ A n c,u=.slice A n c/\n<=q/\(n=0->A=none)/\OwP w B 212 pS (al_ D) X 20 A n c,fun w w' u hk _ ⟨A,n,c,e,hq,h0,h⟩=>⟨A,n,c,e,hq,h0,h.kept hk hB⟩⟩
def kOl (X:XE) (B:Nat) (hB:∀ k,X k->k<B) (D k:Nat):SK X:=⟨fun w u=>∃ A,u=.slice A k k/\OwP w B 212 pS (al_ D) X 20 A k k,fun w w' u hk _ ⟨A,e,h⟩=>⟨A,e,h.kept hk hB⟩⟩
def kFn (X:XE) (B:Nat) (hB:∀ k,X k->k<B) (S:ByteArray) (D q:Nat):SK X:=⟨fun w u=>∃ P np cp A n c,u=.agg #[.string S,.slice P np cp,.slice A n c]/\SlT w X 20 [.sat strP] P np cp/\n<=q/\(n=0->A=none)/\OwP w B 212 pS (al_ D) X 20 A n c,fun w w' u hk _ ⟨P,np,cp,A,n,c,e,h1,hq,h0,h⟩=>⟨P,np,cp,A,n,c,e,h1.up hk (l_),hq,h0,h.kept hk hB⟩⟩
def zfn:VL:=[.string ⟨#[]⟩,.slice none 0 0,.slice none 0 0]
def kVarF (X:XE) (B:Nat):SK X:=⟨fun w u=>∃ g,u=.pointer (some (a_ g))/\B<=g/\¬X g/\Bx w g zfn,fun w w' u hk _ ⟨g,e,hB,hX,hb⟩=>⟨g,e,hB,hX,hb.kp hk hX⟩⟩
end
section
variable {Q:Exit->Act->World->Prop} {X:XE} {Inv:World->Prop} {o:Oper} {a:Act} {w:World} {d b lp:Nat} {x y z:Operand}
theorem rk_listo {deep D n B:Nat} {hB:∀ k,X k->k<B} (hBw:B<=w) (hC:IC d b lp X Inv) (hL:LsOK deep D) (hlp:lp<=100+deep) (hn:n<=6) (ho:o.op=.call { callee:=.value (.func 113),args:=#[x,y,z],argTypes:=#[203,3,3] }) (hx:a.eval x=.pointer (some (a_ b))) (hy:a.eval y=i_ deep) (hz:a.eval z=i_ n) (hI:Inv w):RnK prog Q X Inv (kOt X B hB D (n+1)) o a w:=by
 have hf:a.eval (.func 113)=.func (.func 113) #[] #[]:=rfl;generalize hr:a.eval=r at hx hy hz hf;refine ck_ (f:=113) (args:=#[.pointer (some (a_ b)),i_ deep,i_ n]) (by rw [hr];simp [execOp,ho,hx,hy,hz,hf,go_sem]) ((hL d b lp X n w hn hlp (hC.ok w hI) hC.zx (hC.lt w hI)).mono ?_);rintro e w' ⟨⟨A,m,c,rfl,hm,h0,h⟩,hb⟩;exact ⟨_,rfl,hb.kp.mono (fun q _ hq=>hC.zx q hq),hC.ex w w' hI hb.kp,hC.up w w' hI hb.ok hb.kp,A,m,c,rfl,hm,h0,h.o.mono hBw⟩
theorem rk_ol1 {D B:Nat} {hB:∀ k,X k->k<B} (hBw:B<=w) (hC:IC d b lp X Inv) (ho:o.op=.buildSlice 192 1 #[(0,x)]) (hx:(kSt X D).p w (a.eval x)) (hI:Inv w):RnK prog Q X Inv (kOl X B hB D 1) o a w:=by
 obtain ⟨kd,s,f,n,op,A,m,c,B1,m1,c1,C,m2,c2,hx,h1⟩:=hx;generalize hr:a.eval=r at hx;refine rk_to (v:=.slice (some (a_ w)) 1 1) (w':=w.alloc (.cells (stL kd s f n op A m c B1 m1 c1 C m2 c2).toArray 212)) (by rw [hr];simp [execOp,ho,hx,go_sem];rfl) (.of_below (av_ w _ _)) (hC.ex w _ hI (.of_below (av_ w _ _))) ?_ (hC.below hI (av_ w _ _));have:=OwP.lit (n:=1) (w:=w) (X:=X) (p:=pS) (e:=al_ D) (K:=20) 212 [stL kd s f n op A m c B1 m1 c1 C m2 c2] rfl d_ d_ (fun vs hv=>by rw [List.mem_singleton] at hv;subst hv;exact h1) (hC.lt w hI);exact ⟨_,rfl,OwP.mono (by simpa using this) hBw⟩
theorem rk_appf {D B k m d':Nat} {hB:∀ k,X k->k<B} {C:OA} (hBw:B<=w) (hC:IC d b lp X Inv) (hk:0<k) (hm:k+m<=19) (ho:o.op=.call { callee:=.builtin .append,args:=#[x,y],argTypes:=#[192,192] }) (hx:(kOl X B hB D k).p w (a.eval x)) (hy:a.eval y=.slice C m d') (hs:SlP w X 20 pS (al_ D) C m d') (hI:Inv w):RnK prog Q X Inv (kOt X B hB D (k+m)) o a w:=fun K hK=>by
 obtain ⟨A,hx,hO⟩:=hx;obtain ⟨A',c',w',hr,o6,hb⟩:=app_full o.type ei_stmt hO hs o_ (hC.lt w hI) m_ o_ hBw;unfold Oper.wp execOp;simp only [ho,resolve,invoke,builtin,Sem.run_bind,Sem.run_pure,Result.andThen_ok,List.map_toArray,List.map_cons,List.map_nil,hx,hy,hr];exact hK _ _ (.of_below hb) (hC.ex w w' hI (.of_below hb)) (hC.below hI hb) ⟨A',k+m,c',rfl,l_,fun h=>o_,o6⟩
theorem kOt_le {B D q q':Nat} {hB:∀ k,X k->k<B} {v:Value} (hq:q<=q') (h:(kOt X B hB D q).p w v):(kOt X B hB D q').p w v:=by
 obtain ⟨A,n,c,e,hn,h0,h⟩:=h;exact ⟨A,n,c,e,o_,h0,h⟩
theorem kOt_d {B D D' q:Nat} {hB:∀ k,X k->k<B} {v:Value} (hD:D<=D') (h:(kOt X B hB D q).p w v):(kOt X B hB D' q).p w v:=by
 obtain ⟨A,n,c,e,hn,h0,h⟩:=h;exact ⟨A,n,c,e,hn,h0,h.le hD⟩
theorem rk_first {D B q:Nat} {hB:∀ k,X k->k<B} (hBw:B<=w) (hC:IC d b lp X Inv) (hq:q<=9) (ho:o.op=.call { callee:=.value (.func 115),args:=#[x,y],argTypes:=#[192,188] }) (hx:(kOt X B hB D q).p w (a.eval x)) (hy:(bv_ X 3).p w (a.eval y)) (hI:Inv w):RnK prog Q X Inv (kOt X B hB D (q+8)) o a w:=by
 obtain ⟨A,n,c,hx,hn,h0,hO⟩:=hx;obtain ⟨g,hy,hg,A1,hc⟩:=hy;have hf:a.eval (.func 115)=.func (.func 115) #[] #[]:=rfl;generalize hr:a.eval=r at hx hy hf;refine ck_ (f:=115) (args:=#[.slice A n c,.slice (some (a_ g)) 3 3]) (by rw [hr];simp [execOp,ho,hx,hy,hf,go_sem]) ((first_m X D A n c g w (hC.lt w hI) (hO.slP hB o_) o_ hg A1 hc).mono ?_);rintro e w' ⟨⟨A',m,c',rfl,hm,A0,h⟩,hb⟩;exact ⟨_,rfl,.of_below hb,hC.ex w w' hI (.of_below hb),hC.below hI hb,A',m,c',rfl,o_,A0,h.o.mono hBw⟩
theorem rk_fn2 {D B q:Nat} {S:ByteArray} {hB:∀ k,X k->k<B} (ho:o.op=.build 194 #[(0,.const (.string S)),(2,x)]) (hx:(kOt X B hB D q).p w (a.eval x)) (hI:Inv w):RnK prog Q X Inv (kFn X B hB S D q) o a w:=by
 obtain ⟨A,n,c,hx,hn,h0,hO⟩:=hx;have e0:a.eval (.const (.string S))=.string S:=rfl;generalize hr:a.eval=r at hx e0;exact bt_ (v:=.agg #[.string S,.slice none 0 0,.slice A n c]) (by rw [hr];simp [execOp,ho,hx,e0,go_sem]) ⟨none,0,0,A,n,c,rfl,⟨Nat.zero_le _,l_,o_,fun _=>⟨rfl,rfl⟩,fun _ h=>by cases h⟩,hn,h0,hO⟩ hI
theorem rk_fn3 {D B q k:Nat} {S:ByteArray} {hB:∀ k,X k->k<B} (hk:k<=20) (ho:o.op=.build 194 #[(0,.const (.string S)),(1,y),(2,x)]) (hy:(bv_ X k).p w (a.eval y)) (hx:(kOt X B hB D q).p w (a.eval x)) (hI:Inv w):RnK prog Q X Inv (kFn X B hB S D q) o a w:=by
 obtain ⟨A,n,c,hx,hn,h0,hO⟩:=hx;obtain ⟨g,hy,hg,A0,hc⟩:=hy;have e0:a.eval (.const (.string S))=.string S:=rfl;generalize hr:a.eval=r at hx hy e0;exact bt_ (v:=.agg #[.string S,.slice (some (a_ g)) k k,.slice A n c]) (by rw [hr];simp [execOp,ho,hx,hy,e0,go_sem]) ⟨_,k,k,A,n,c,rfl,slt_strs hg A0 hk hc,hn,h0,hO⟩ hI
theorem rk_varf {B:Nat} (hC:IC d b lp X Inv) (hB:B<=w) (ho:o.op=.alloc 194) (hI:Inv w):RnK prog Q X Inv (kVarF X B) o a w:=by
 refine rk_to (v:=.pointer (some (a_ w))) (w':=w.alloc (.cells zfn.toArray 194)) (by simp [execOp,ho,go_sem,zfn]) (.of_below (av_ w _ _)) (hC.ex w _ hI (.of_below (av_ w _ _))) ?_ (hC.below hI (av_ w _ _));exact ⟨_,rfl,hB,fun h=>by have:=hC.lt w hI _ h;omega,Bx.new w _ _⟩
theorem rk_fldf {x:Operand} {g f:Nat} (hf:f<3) (ho:o.op=.fieldAddr 194 x f) (hx:a.eval x=.pointer (some (a_ g))) (hI:Inv w):RnK prog Q X Inv (kV X (.pointer (some (f_ g f)))) o a w:=by
 generalize hr:a.eval=r at hx;refine bt_ (v:=.pointer (some (f_ g f))) ?_ rfl hI;rw [hr]
 match f,hf with
 | 0,_=>simp [execOp,ho,hx,go_sem]
 | 1,_=>simp [execOp,ho,hx,go_sem]
 | 2,_=>simp [execOp,ho,hx,go_sem]
theorem rk_lst8 {x:Operand} {g D:Nat} {cs:VL} (ho:o.op=.load 212 x) (hx:a.eval x=.pointer (some (a_ g))) (hb:Bx w g cs) (hv:VTs w X 20 (al_ (D+1)) cs) (hp:pS cs) (hI:Inv w):RnK prog Q X Inv (kSt X (D+1)) o a w:=fun K hK=>by
 obtain ⟨kd,s,f,n,op,A,B,C,m,c,m1,c1,m2,c2,rfl,_⟩:=hv.stmt;refine wp_load_mid 212 x ho g 0 hx _ _ hb.whole underlying212 rfl isz8 (hK _ _ (Kp.refl _ _) (fun h=>h) hI ⟨kd,s,f,n,op,A,m,c,B,m1,c1,C,m2,c2,rfl,hv,hp⟩)
end
end Go.Proofs.YtfolidlmgfhkiaaGreat
namespace Go.Proofs.YtfolidlmgfhkiaaGreat
open Go.RowKit
inductive NS:CT->Prop
 | num:NS .num
 | tru:NS .tru
 | txt:NS .txt
 | sat:NS (.sat strP)
 | sl (e:List CT) (h:∀ (j:Nat) (t:CT),e[j]?=some t->NS t) (h2:∀ (j:Nat) (t:CT),e[j]?=some t->j<=2->∀ e',t≠.sl e'/\∀ p,t≠.lst p e'):NS (.sl e)
 | lst (p:VL->Prop) (e:List CT) (h:∀ (j:Nat) (t:CT),e[j]?=some t->NS t) (h2:∀ (j:Nat) (t:CT),e[j]?=some t->j<=2->∀ e',t≠.sl e'/\∀ p,t≠.lst p e') (h0:∀ t,e[0]?=some t->t=.num):NS (.lst p e)
structure FnC3 (g:Nat) (w w':World):Prop where
 sz:(w:Nat)<=w'
 cs:∀ b o,w'.cell? (f_ b o)=w.cell? (f_ b o)∨(b=g/\((o=0/\(∃ s,w.cell? (f_ b o)=some (.string s))/\∃ s:ByteArray,w'.cell? (f_ b o)=some (.string s)/\s.size<=100)∨((o=1∨o=2)/\∃ A n c,w.cell? (f_ b o)=some (.slice A n c))))
theorem VT.nosl {w:World} {X:NP} {K:Nat} {t:CT} {A:OA} {n c:Nat} (h:VT w X K t (.slice A n c)) (hs:∀ e',t≠.sl e'/\∀ p,t≠.lst p e') (hn:NS t):False:=by
 cases hn with
 | num=>cases h
 | tru=>cases h
 | txt=>cases h
 | sat=>cases h with
  | sat p v h hp=>obtain ⟨s,e,_⟩:=hp;cases e
 | sl e _ _=>exact (hs e).1 rfl
 | lst p e _ _ _=>exact (hs e).2 p rfl
theorem VT.setf {g:Nat} {w w':World} {X:NP} {K:Nat} {t:CT} {v:Value} (h:VT w X K t v) (hc:FnC3 g w w'):NS t->VT w' X K t v:=by
 induction h with
 | num n=>intro _;exact .num n
 | tru x=>intro _;exact .tru x
 | txt x=>intro _;exact .txt x
 | nil e=>intro _;exact .nil e
 | sat p v h hp=>intro _;exact .sat p v h hp
 | lnil p e=>intro _;exact .lnil p e
 | sl e b o n c f hg hX hn hcap hm hf ht ih =>
  intro A0;cases A0 with
  | sl _ h1 h2 =>
   have A1:∀ k j t,k<n->e[j]?=some t->∃ v,w'.cell? ⟨b,o+(k*e.length+j),none⟩=some v/\VT w' X K t v:=fun k j t hk hj=>by
    rcases hc.cs b (o+(k*e.length+j)) with h | ⟨hb,h⟩
    ·exact ⟨f k j,h.trans (hf k j t hk hj),ih k j t hk hj (h1 j t hj)⟩
    rcases h with ⟨h0,⟨s,hs⟩,s',hs',hz⟩ | ⟨h12,A,m,d,hs⟩
    ·rw [hf k j t hk hj] at hs;injection hs with hs;have h3:=ht k j t hk hj;rw [hs] at h3;have A3:j=0:=by omega
     have A5:=h1 j t hj;refine ⟨.string s',hs',?_⟩;cases A5 with
     | num=>cases h3
     | tru=>cases h3
     | txt=>exact .txt _
     | sat=>exact .sat _ _ rfl ⟨s',rfl,hz⟩
     | sl e' _ _=>cases h3
     | lst p e' _ _ _=>cases h3
    rw [hf k j t hk hj] at hs;injection hs with hs;have h3:=ht k j t hk hj;rw [hs] at h3;exact (h3.nosl (h2 j t hj o_) (h1 j t hj)).elim
   have A4:∃ f':Nat->Nat->Value,∀ k j t,k<n->e[j]?=some t->w'.cell? ⟨b,o+(k*e.length+j),none⟩=some (f' k j)/\VT w' X K t (f' k j) :=
    ⟨fun k j=>(w'.cell? ⟨b,o+(k*e.length+j),none⟩).getD undef,fun k j t hk hj=>by obtain ⟨v,h1,h2⟩:=A1 k j t hk hj;dsimp only;rw [h1];exact ⟨rfl,h2⟩⟩
   obtain ⟨f',A2⟩:=A4;exact .sl e b o n c f' (lt_ hg hc.sz) hX hn hcap hm (fun k j t hk hj=>(A2 k j t hk hj).1) (fun k j t hk hj=>(A2 k j t hk hj).2)
 | lst p e b o n c f hg hX hn hcap hm hf ht hp ih =>
  intro A0;cases A0 with
  | lst _ _ h1 h2 h0 =>
   have A1:∀ k j t,k<n->e[j]?=some t->w'.cell? ⟨b,o+(k*e.length+j),none⟩=some (f k j):=fun k j t hk hj=>by
    rcases hc.cs b (o+(k*e.length+j)) with h | ⟨hb,h⟩
    ·exact h.trans (hf k j t hk hj)
    rcases h with ⟨h3,⟨s,hs⟩,s',hs',hz⟩ | ⟨h12,A,m,d,hs⟩
    ·exfalso;rw [hf k j t hk hj] at hs;injection hs with hs;have h4:=ht k j t hk hj;rw [hs] at h4;have A3:j=0:=by omega
     subst A3;have:=h0 t hj;subst this;cases h4
    exfalso;rw [hf k j t hk hj] at hs;injection hs with hs;have h3:=ht k j t hk hj;rw [hs] at h3;exact h3.nosl (h2 j t hj o_) (h1 j t hj)
   exact .lst p e b o n c f (lt_ hg hc.sz) hX hn hcap hm A1 (fun k j t hk hj=>ih k j t hk hj (h1 j t hj)) hp
theorem ns_expr:∀ d,∀ (j:Nat) (t:CT),(ay_ d)[j]?=some t->NS t:=by
 intro d
 induction d with
 | zero =>
  intro j t hj
  match j,hj with
  | 0,hj=>injection hj with hj;subst hj;exact .num
  | 1,hj=>injection hj with hj;subst hj;exact .num
  | 2,hj=>injection hj with hj;subst hj;exact .txt
  | 3,hj=>injection hj with hj;subst hj;exact .num
  | 4,hj=>injection hj with hj;subst hj;exact .lst _ _ (fun j t h=>by simp at h) (fun j t h=>by simp at h) (fun t h=>by simp at h)
 | succ d ih =>
  intro j t hj
  match j,hj with
  | 0,hj=>injection hj with hj;subst hj;exact .num
  | 1,hj=>injection hj with hj;subst hj;exact .num
  | 2,hj=>injection hj with hj;subst hj;exact .txt
  | 3,hj=>injection hj with hj;subst hj;exact .num
  | 4,hj =>
   injection hj with hj;subst hj;refine .lst _ _ ih (fun j t hj h2 e'=>?_) (fun t h=>?_)
   ·have h3:j=0∨j=1∨j=2:=by omega
    cases d <;> rcases h3 with rfl | rfl | rfl <;> (injection hj with hj;subst hj;exact ⟨x_,fun p h=>by cases h⟩)
   cases d <;> (injection h with h;exact h.symm)
theorem ns_lexpr (d:Nat):NS (.lst pE (ay_ d)):=by
 refine .lst _ _ (ns_expr d) (fun j t hj h2 e'=>?_) (fun t h=>?_)
 ·have h3:j=0∨j=1∨j=2:=by omega
  cases d <;> rcases h3 with rfl | rfl | rfl <;> (injection hj with hj;subst hj;exact ⟨x_,fun p h=>by cases h⟩)
 cases d <;> (injection h with h;exact h.symm)
theorem ns_noP:NS (.lst noP []):=.lst _ _ (fun j t h=>by simp at h) (fun j t h=>by simp at h) (fun t h=>by simp at h)
theorem ns_lstmt' (d:Nat) (h:∀ (j:Nat) (t:CT),(al_ d)[j]?=some t->NS t):NS (.lst pS (al_ d)):=by
 refine .lst _ _ h (fun j t hj h2 e'=>?_) (fun t h=>?_)
 ·have h3:j=0∨j=1∨j=2:=by omega
  cases d <;> rcases h3 with rfl | rfl | rfl <;> (injection hj with hj;subst hj;exact ⟨x_,fun p h=>by cases h⟩)
 cases d <;> (injection h with h;exact h.symm)
theorem ns_stmt:∀ d,∀ (j:Nat) (t:CT),(al_ d)[j]?=some t->NS t:=by
 intro d
 induction d with
 | zero =>
  intro j t hj
  match j,hj with
  | 0,hj=>injection hj with hj;subst hj;exact .num
  | 1,hj=>injection hj with hj;subst hj;exact .txt
  | 2,hj=>injection hj with hj;subst hj;exact .txt
  | 3,hj=>injection hj with hj;subst hj;exact .num
  | 4,hj=>injection hj with hj;subst hj;exact .num
  | 5,hj=>injection hj with hj;subst hj;exact ns_lexpr _
  | 6,hj=>injection hj with hj;subst hj;exact ns_noP
  | 7,hj=>injection hj with hj;subst hj;exact ns_noP
 | succ d ih =>
  intro j t hj
  match j,hj with
  | 0,hj=>injection hj with hj;subst hj;exact .num
  | 1,hj=>injection hj with hj;subst hj;exact .txt
  | 2,hj=>injection hj with hj;subst hj;exact .txt
  | 3,hj=>injection hj with hj;subst hj;exact .num
  | 4,hj=>injection hj with hj;subst hj;exact .num
  | 5,hj=>injection hj with hj;subst hj;exact ns_lexpr _
  | 6,hj=>injection hj with hj;subst hj;exact ns_lstmt' d ih
  | 7,hj=>injection hj with hj;subst hj;exact ns_lstmt' d ih
theorem ns_lstmt (d:Nat):NS (.lst pS (al_ d)):=ns_lstmt' d (ns_stmt d)
theorem ns_strs:NS (.sl [.sat strP]):=.sl _ (fun j t h=>by
 match j,h with
 | 0,h=>injection h with h;subst h;exact .sat) (fun j t h h2 e'=>by
 match j,h with
 | 0,h=>injection h with h;subst h;exact ⟨x_,fun p h=>by cases h⟩)
theorem SlP.setf {g:Nat} {w w':World} {X:NP} {K D:Nat} {A:OA} {n c:Nat} (h:SlP w X K pS (al_ D) A n c) (hc:FnC3 g w w'):SlP w' X K pS (al_ D) A n c:=by
 obtain ⟨A',n',c',e',h'⟩:=(h.vt.setf hc (ns_lstmt D)).dj_;injection e' with e1 e2 e3;subst e1 e2 e3;exact h'
theorem SlT.setf {g:Nat} {w w':World} {X:NP} {K:Nat} {A:OA} {n c:Nat} (h:SlT w X K [.sat strP] A n c) (hc:FnC3 g w w'):SlT w' X K [.sat strP] A n c:=by
 obtain ⟨A',n',c',e',h'⟩:=(h.vt.setf hc ns_strs).slice;injection e' with e1 e2 e3;subst e1 e2 e3;exact h'
theorem OwP.setf {g base:Nat} {w w':World} {X:NP} {D:Nat} {A:OA} {n c:Nat} (h:OwP w base 212 pS (al_ D) X 20 A n c) (hc:FnC3 g w w') (hb:∀ b,(Value.slice A n c).ownBlock=some b->w'.heap[b]?=w.heap[b]?):OwP w' base 212 pS (al_ D) X 20 A n c:=by
 obtain ⟨xs,ho,hx⟩:=h;refine ⟨xs,⟨ho.1,?_⟩,fun k hk=>?_⟩
 ·rcases ho.2 with h | ⟨b,cap,cur,hv,hg,hr,hr2⟩
  ·exact .inl h
  injection hv with q1 _ q3;subst q1 q3;exact .inr ⟨b,_,cur,rfl,hg,(hb b rfl).trans hr,hr2⟩
 obtain ⟨vs,h1,h2,h3⟩:=hx k hk;refine ⟨vs,⟨h1.1,fun j t hj=>?_⟩,h2,h3⟩;obtain ⟨u,hu,hv⟩:=h1.2 j t hj;exact ⟨u,hu,hv.setf hc (ns_stmt D j t hj)⟩
theorem fn_set {g:Nat} {w:World} {s0 s1:ByteArray} {A0 A1 B0 B1:OA} {n0 c0 n1 c1 m0 d0 m1 d1:Nat} (hb:Bx w g [.string s0,.slice A0 n0 c0,.slice B0 m0 d0]) (hs:s1.size<=100):FnC3 g w (w.setCells g 0 [.string s1,.slice A1 n1 c1,.slice B1 m1 d1]):=by
 have h':=hb.all [.string s1,.slice A1 n1 c1,.slice B1 m1 d1] rfl;refine ⟨by rw [setCells_size];exact l_,fun b o=>?_⟩;by_cases hbg:b=g
 ·subst hbg
  match o with
  | 0=>exact .inr ⟨rfl,.inl ⟨rfl,⟨s0,hb.2.1 0 _ rfl⟩,s1,h'.2.1 0 _ rfl,hs⟩⟩
  | 1=>exact .inr ⟨rfl,.inr ⟨.inl rfl,A0,n0,c0,hb.2.1 1 _ rfl⟩⟩
  | 2=>exact .inr ⟨rfl,.inr ⟨.inr rfl,B0,m0,d0,hb.2.1 2 _ rfl⟩⟩
  | o+3 =>
   left;simp only [World.setCells]
   repeat rw [be_ _ _ _ _ (by intro e;injection e with e1 e2;omega)]
 left;have hk:Kp (fun k=>k=g) w (w.setCells g 0 [.string s1,.slice A1 n1 c1,.slice B1 m1 d1]):=ai_ _ _ _ (Kp.refl _ _) (.inl rfl);by_cases hlt:b<w
 ·exact hk.cell hlt hbg
 exact World.cell?_of_block (w:=w) (by rw [Array.getElem?_eq_none (show _<=b by rw [setCells_size];omega),Array.getElem?_eq_none (show _<=b by omega)])
theorem zfn_bx {g:Nat} {w:World} (h:Bx w g zfn):Bx w g [.string ⟨#[]⟩,.slice none 0 0,.slice none 0 0]:=h
theorem fn_put {g:Nat} {w:World} {s0:ByteArray} {A0 B0:OA} {n0 c0 m0 d0:Nat} (v:Value) (hb:Bx w g [.string s0,.slice A0 n0 c0,.slice B0 m0 d0]):FnC3 g w (w.setCell (f_ g 2) v):=by
 refine ⟨by simp,fun b o=>?_⟩;by_cases e:b=g/\o=2
 ·obtain ⟨rfl,rfl⟩:=e;exact .inr ⟨rfl,.inr ⟨.inr rfl,B0,m0,d0,hb.2.1 2 _ rfl⟩⟩
 left;exact be_ _ _ _ _ (by intro e2;injection e2 with e3 e4;exact e ⟨e3.symm,e4.symm⟩)
theorem own_nofn {g base:Nat} {w:World} {X:NP} {D:Nat} {A:OA} {n c:Nat} {s0:ByteArray} {r:VL} (h:OwP w base 212 pS (al_ D) X 20 A n c) (hn:0<n) (hb:Bx w g (.string s0 :: r)):(Value.slice A n c).ownBlock≠some g:=fun e=>by
 obtain ⟨xs,ho,hx⟩:=h;obtain ⟨vs,h1,h2,h3⟩:=hx 0 hn;obtain ⟨u,hu,hv⟩:=h1.2 0 .num (by cases D <;> rfl);obtain ⟨i,rfl⟩:=hv.int;have h4:=h2 0 _ hu;rw [Nat.zero_mul,Nat.zero_add] at h4;rcases ho.2 with ⟨h',_⟩ | ⟨b,cap,cur,hv2,hg,hr,hr2⟩
 ·injection h' with q1;subst q1;cases e
 injection hv2 with q1 _ q3;subst q1 q3;injection e with e;have e:b=g:=e;subst e;have h5:=ho.cells (g:=b) rfl 0 _ h4;rw [Addr.add_lit] at h5;have h6:=hb.2.1 0 _ rfl;rw [h6] at h5;cases h5
end Go.Proofs.YtfolidlmgfhkiaaGreat
namespace Go.Proofs.YtfolidlmgfhkiaaGreat
open Go.RowKit Go.Proofs.Tryz
theorem RnK.imp {P:Program} {Q:Exit->Act->World->Prop} {X:XE} {Inv:World->Prop} {κ κ':SK X} {o:Oper} {a:Act} {w:World} (h:RnK P Q X Inv κ o a w) (hi:∀ w v,κ.p w v->κ'.p w v):RnK P Q X Inv κ' o a w:=fun K hK=>h K (fun v w' h1 h2 h3 h4=>hK v w' h1 h2 h3 (hi _ _ h4))
section
variable {Q:Exit->Act->World->Prop} {X:XE} {Inv:World->Prop} {o:Oper} {a:Act} {w:World} {d b lp:Nat}
theorem rk_ol8 {x0 x1 x2 x3 x4 x5 x6 x7:Operand} {D B:Nat} {hB:∀ k,X k->k<B} (hBw:B<=w) (hC:IC d b lp X Inv) (ho:o.op=.buildSlice 192 8 #[(0,x0),(1,x1),(2,x2),(3,x3),(4,x4),(5,x5),(6,x6),(7,x7)]) (h0:(kSt X D).p w (a.eval x0)) (h1:(kSt X D).p w (a.eval x1)) (h2:(kSt X D).p w (a.eval x2)) (h3:(kSt X D).p w (a.eval x3)) (h4:(kSt X D).p w (a.eval x4)) (h5:(kSt X D).p w (a.eval x5)) (h6:(kSt X D).p w (a.eval x6)) (h7:(kSt X D).p w (a.eval x7)) (hI:Inv w):RnK prog Q X Inv (kOl X B hB D 8) o a w:=by
 obtain ⟨Ao,BI,Bj,BA,AN,AV,Br,Bb,A0,Ax,A8,B3,AF,Ag,h0,v0⟩:=h0;obtain ⟨Ap,BJ,Bk,BB,AO,AW,Bs,Bc,A1,Ay,A9,B4,AG,Ah,h1,v1⟩:=h1;obtain ⟨Aq,BK,Bl,BC,AP,AX,Bt,Bd,A2,Az,Aa,B5,AH,Ai,h2,v2⟩:=h2;obtain ⟨Ar,BL,Bm,BD,AQ,AY,Bu,Be,A3,AA,Ab,B6,AI,Aj,h3,v3⟩:=h3;obtain ⟨As,BM,Bn,BE,AR,AZ,Bv,Bf,A4,AB,Ac,B7,AJ,Ak,h4,v4⟩:=h4;obtain ⟨Au,BN,Bo,BF,AS,B0,Bw,Bg,A5,AC,Ad,B8,AK,Al,h5,v5⟩:=h5;obtain ⟨Av,BO,Bp,BG,AT,B1,By,Bh,A6,AD,Ae,B9,AL,Am,h6,v6⟩:=h6;obtain ⟨Aw,BP,Bq,BH,AU,B2,Bz,Bi,A7,AE,Af,Ba,AM,An,h7,v7⟩:=h7;generalize hr:a.eval=r at h0 h1 h2 h3 h4 h5 h6 h7;have hl:=OwP.lit (n:=8) (w:=w) (X:=X) (p:=pS) (e:=al_ D) (K:=20) 212 [stL Ao BI Bj BA AN AV Br Bb A0 Ax A8 B3 AF Ag,stL Ap BJ Bk BB AO AW Bs Bc A1 Ay A9 B4 AG Ah,stL Aq BK Bl BC AP AX Bt Bd A2 Az Aa B5 AH Ai,stL Ar BL Bm BD AQ AY Bu Be A3 AA Ab B6 AI Aj,stL As BM Bn BE AR AZ Bv Bf A4 AB Ac B7 AJ Ak,stL Au BN Bo BF AS B0 Bw Bg A5 AC Ad B8 AK Al,stL Av BO Bp BG AT B1 By Bh A6 AD Ae B9 AL Am,stL Aw BP Bq BH AU B2 Bz Bi A7 AE Af Ba AM An] rfl d_ d_ (fun vs hv=>by
  simp only [List.mem_cons,List.not_mem_nil,or_false] at hv
  rcases hv with rfl | rfl | rfl | rfl | rfl | rfl | rfl | rfl
  ·exact v0
  ·exact v1
  ·exact v2
  ·exact v3
  ·exact v4
  ·exact v5
  ·exact v6
  exact v7) (hC.lt w hI)
 refine rk_to (v:=.slice (some (a_ w)) 8 8) (w':=w.alloc (.cells ([stL Ao BI Bj BA AN AV Br Bb A0 Ax A8 B3 AF Ag,stL Ap BJ Bk BB AO AW Bs Bc A1 Ay A9 B4 AG Ah,stL Aq BK Bl BC AP AX Bt Bd A2 Az Aa B5 AH Ai,stL Ar BL Bm BD AQ AY Bu Be A3 AA Ab B6 AI Aj,stL As BM Bn BE AR AZ Bv Bf A4 AB Ac B7 AJ Ak,stL Au BN Bo BF AS B0 Bw Bg A5 AC Ad B8 AK Al,stL Av BO Bp BG AT B1 By Bh A6 AD Ae B9 AL Am,stL Aw BP Bq BH AU B2 Bz Bi A7 AE Af Ba AM An]:List (VL)).flatten.toArray 212)) (by rw [hr];simp [execOp,ho,h0,h1,h2,h3,h4,h5,h6,h7,go_sem];rfl) (.of_below (av_ w _ _)) (hC.ex w _ hI (.of_below (av_ w _ _))) ?_ (hC.below hI (av_ w _ _));exact ⟨_,rfl,OwP.mono hl hBw⟩
end
theorem wp_store1 {Q:Exit->Act->World->Prop} {o:Oper} {a:Act} {w:World} {K:Act->World->Prop} {x y:Operand} {p:Addr} {A:OA} {n c:Nat} {u:Value} (ho:o.op=.store 192 x y) (hx:a.eval x=.pointer (some p)) (hy:a.eval y=.slice A n c) (hc:w.cell? p=some u) (hf:w.frozen? p=false) (h:K (a.put o.dst undef) (w.setCell p (.slice A n c))):o.wp prog a w K Q:=by
 have hr:(execOp a.eval o).run prog w=.ok .skip (w.setCell p (.slice A n c)):=by
  generalize hr:a.eval=r at hx hy;rw [hr] at *;simp [execOp,ho,hx,hy,hc,hf,go_sem]
 unfold Oper.wp;rw [hr];exact h
structure FnV (X:NP) (g z:Nat) (S:ByteArray) (w:World):Prop where
 zl:z<=w
 gz:g<z
 bx:∃ cs,Bx w g cs/\VTs w (fun k=>X k∨z<=k) 20 (cy_ 3) cs/\cs[0]?=some (.string S)
theorem FnV.up {X Z:NP} {g z:Nat} {S:ByteArray} {w w':World} (h:FnV X g z S w) (hk:Kp Z w w') (hz:∀ k,Z k->X k∨z<=k) (hg:¬Z g):FnV X g z S w':=by
 obtain ⟨cs,h1,h2,h3⟩:=h.bx;exact ⟨Nat.le_trans h.zl hk.size,h.gz,cs,h1.kp hk hg,h2.up (hk.mono (fun k _ hk=>hz k hk)) (l_),h3⟩
theorem FnV.mk' {X:NP} {g:Nat} {S:ByteArray} {w:World} {P B:OA} {np cp m c:Nat} (hb:Bx w g [.string S,.slice P np cp,.slice B m c]) (hS:S.size<=100) (hP:SlT w X 20 [.sat strP] P np cp) (hB:SlP w X 20 pS (al_ 3) B m c):FnV X g w S w:=by
 have hv:VTs w X 20 (cy_ 3) [.string S,.slice P np cp,.slice B m c]:=VTs.cons (.sat _ _ rfl ⟨S,rfl,hS⟩) (VTs.cons hP.vt (VTs.cons hB.vt VTs.nil));exact ⟨l_,hb.1,_,hb,hv.kept (Kp.refl _ _) (fun k hk h1 h2=>by rcases h2 with h2 | h2;exact h1 h2;omega) (l_),rfl⟩
end Go.Proofs.YtfolidlmgfhkiaaGreat
