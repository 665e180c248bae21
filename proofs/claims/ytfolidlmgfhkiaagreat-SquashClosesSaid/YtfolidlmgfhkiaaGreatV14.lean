/- Lemmas on functions of the program, under the conditions that each states. -/
import Derived.Test.YtfolidlmgfhkiaaGreatV13
import Derived.Test.YtfolidlmgfhkiaaGreatV12
import Derived.Test.YtfolidlmgfhkiaaGreatV10
set_option linter.unusedVariables false
set_option linter.unusedSimpArgs false
set_option maxRecDepth 100000
set_option maxHeartbeats 4000000
namespace Go.Proofs.YtfolidlmgfhkiaaGreat
open Go.RowKit Go.Proofs.Tryz
def lenV:Value->Nat
 | .slice _ n _=>n
 | _=>0
theorem Chain_t (X:NP) (K:Nat) (A:OA) (n c:Nat) (v s:Int) (l:List In) (SA:OA) (sn sc:Nat) (st cnt:Int) (w:World) (hl:Sl w w 5 In.cells A n l) (hn:n<=9000000000000) (hs:SlT w X K folT SA sn sc) (hK:K<=900000000) (hX:∀ k,X k->k<w) :
  Calls prog 45 #[.agg #[.slice A n c,i_ v,i_ s],.agg #[.slice SA sn sc],i_ st,i_ cnt] w fun e w'=>RSl X 16 [.num] e w'/\Below w w w':=by
 obtain ⟨i0,Am,An,Ao,Ap⟩:=info_parts infoInt;obtain ⟨W,hW,A2,Al,B0,B1⟩:=cb_ w [.slice A n c,i_ v,i_ s] 26 [.slice SA sn sc] 99;have KC:=h_ (∀ w',Below W W w'->(w'.cell? (a_ w)=some (.slice A n c)/\w'.cell? (f_ w 1)=some (i_ v)/\w'.cell? (f_ w 2)=some (i_ s))/\w'.cell? (a_ (w+1))=some (.slice SA sn sc)/\Sl w' w' 5 In.cells A n l/\SlT w' X K folT SA sn sc/\Below w w w') (fun w' hb =>
  ⟨⟨(B0.below hb).2.1 0 _ rfl,(B0.below hb).2.1 1 _ rfl,(B0.below hb).2.1 2 _ rfl⟩,(B1.below hb).2.1 0 _ rfl,hl.up (A2.trans (hb.mono A2.size)),hs.up (Kp.of_below (A2.trans (hb.mono A2.size))) (l_),A2.trans (hb.mono A2.size)⟩)
 have A1:=h_ (∀ k,X k->k<W) (fun k hk=>by have:=hX k hk;omega);clear hl hs hX B0 B1 A2 Al;go_enter func45,ntmps45;go_upto_region 1 with fail;rw [<-hW];clear hW;go_upto_region 2 with fail;go_wp2_with fail;go_loopw [9,10,11] (fun o a k wr=>∃ (A9:OA) (n9 c9:Nat) (A0:Int) (ok:Bool),o=.slice A9 n9 c9/\a=i_ A0/\k=.bool ok/\n9<=16/\Hid (OwT wr W 3 [.num] X 16 A9 n9 c9)/\Hid (Below W W wr)) (fun o _ _ _=>16 - lenV o)
 case atStart=>exact ⟨none,0,0,st,true,rfl,rfl,rfl,o_,q_ (OwT.nil _ _ _ _ _ _),q_ (b_)⟩
 obtain ⟨A9,n9,c9,A0,ok,rfl,rfl,rfl,A3,hO,hB⟩:=hrel;have K0:=q_ (KC.o wr hB.o);obtain ⟨⟨c0,c1,c2⟩,d0,_⟩:=K0.o;cases ok
 case false =>
  exact uk_
 case true =>
 by_cases h1:(n9:Int)<cnt
 case neg =>
  exact uk_
 case pos =>
 by_cases h2:(n9:Int)<16
 case neg =>
  exact uk_
 case pos =>
 go_wp2_with fail;refine (Beginning_any A n c v s A0 l wr K0.o.2.2.1 hn).mono ?_;rintro e w1 ⟨⟨b1,rfl⟩,Aa⟩;have A4:=q_ (hB.o.trans (Aa.mono hB.o.size));have A7:=q_ (hO.o.below Aa);clear Aa c0 c1 c2 d0 hO K0;have K1:=q_ (KC.o w1 A4.o);obtain ⟨⟨c0,c1,c2⟩,d0,_⟩:=K1.o;cases b1
 case false =>
  go_wp2_with fail;go_ret;exact ⟨⟨_,_,_,rfl,q_ (A7.o.slT A1.o A3)⟩,K1.o.2.2.2.2⟩
 case true =>
 go_wp2_with fail;refine (Asks_any A n c v s A0 l w1 K1.o.2.2.1 hn).mono ?_;rintro e w2 ⟨⟨b2,rfl,_⟩,Ab⟩;have A5:=q_ (A4.o.trans (Ab.mono A4.o.size));have A8:=q_ (A7.o.below Ab);clear Ab c0 c1 c2 d0 A7 K1;have K2:=q_ (KC.o w2 A5.o);obtain ⟨⟨c0,c1,c2⟩,d0,_⟩:=K2.o;cases b2
 case true =>
  go_wp2_with fail;go_ret;exact ⟨⟨_,_,_,rfl,q_ (A8.o.slT A1.o A3)⟩,K2.o.2.2.2.2⟩
 case false =>
 have Aq:(W:Nat)<=w2:=A5.o.size;have Ad:Below w2 w2 (w2.alloc (.cells #[i_ A0] 3)):=(b_).alloc (l_) _;have Ai:=h_ (SlT (w2.alloc (.cells #[i_ A0] 3)) (Wi X (Value.slice A9 n9 c9).ownBlock) 16 [.num] (some (a_ w2)) 1 1) (SlT.lit1 (e:=[.num]) (VTs.cons (.num _) VTs.nil) _ (fun h=>by
  rcases h with h | h
  ·have:=A1.o _ h;omega
  obtain ⟨xs,ho,_⟩:=A8.o;have:=(am_ ho h).2;omega) o_)
 have Ae:=q_ (A8.o.below Ad);have Ak:=h_ (∀ k,X k->k<(w2.alloc (.cells #[i_ A0] 3)).heap.size) (fun k hk=>by have:=A1.o k hk;simp;omega);have Af:=h_ ((W:Nat)<=(w2.alloc (.cells #[i_ A0] 3)).heap.size) zp_;have Ah:=q_ (A5.o.trans (Ad.mono Aq));clear Ad;go_upto_region 5 with (at_builtin;refine ao_ rfl _ _ 30 rfl W 3 i0 _ 8 [.num] X 16 underlying30 Am An Ao Ap rfl d_ A9 n9 c9 v_ Ae.o (some (a_ w2)) 1 1 v_ Ai.o Ak.o m_ o_ Af.o ?_;intro A6 c6 w6 o6 g6 l6;have O6:=q_ o6;have B6:=q_ (Ah.o.grown g6 Af.o (fun k hk=>by obtain ⟨xs,ho,_⟩:=Ae.o;exact (am_ ho hk).1));clear o6 g6 l6);clear c0 c1 c2 d0;have K6:=q_ (KC.o w6 B6.o);obtain ⟨⟨c0,c1,c2⟩,d0,_⟩:=K6.o;go_wp2_with fail;refine (Guess20_t X K SA sn sc A0 w6 K6.o.2.2.2.1 hK).mono ?_;rintro e w7 ⟨⟨q,b,rfl⟩,Ac⟩;have Ag:=q_ (B6.o.trans (Ac.mono B6.o.size));have Aj:=q_ (O6.o.below Ac);clear Ac c0 c1 c2 d0;go_wp2_with fail;go_roundw
 case rel=>exact ⟨A6,n9+1,c6,q,b,rfl,rfl,rfl,o_,Aj,Ag⟩
 case measure=>simp [lenV];omega
end Go.Proofs.YtfolidlmgfhkiaaGreat
namespace Go.Proofs.YtfolidlmgfhkiaaGreat
open Go.RowKit
section
variable {X Z Y:NP} {w0 w w':World} {L:List LV} {C:Nat->VL} {b i j:Nat} {K:Nat->Nat} {ts:List CT} {ow:Nat->Option TypeId} {t:CT} {v:Value}
theorem Fr.root (h:Fr X Z w0 L Y C w):Fr (fun _=>False) Y w L Y C w :=
 ⟨Kp.refl _ _,fun _ h=>h.elim,h.lt,fun p hp=>by obtain ⟨h1,h2,h3,h4⟩:=h.blk p hp;exact ⟨h1,.inr h1,h3,h4⟩,h.val,
   fun p hp j t et hj ho=>by
  obtain ⟨e,A,n,c,h1,h2,h3,h4,h5⟩:=h.row p hp j t et hj ho
  exact ⟨e,A,n,c,h1,h2,h3,h4,fun g hg=>⟨(h5 g hg).1,.inr (h5 g hg).1,(h5 g hg).2.2⟩⟩,h.far,h.nd⟩
theorem Fr.weak {L':List LV} (h:Fr X Z w0 L Y C w) (hL:L'.length=L.length) (hr:∀ (i:Nat) (p q:LV),L[i]?=some p->L'[i]?=some q->q.b=p.b/\q.ow=p.ow/\(∀ j,p.K j<=q.K j)/\q.ts.length=p.ts.length/\∀ j t t',p.ts[j]?=some t->q.ts[j]?=some t' →
   (p.ow j=none->∀ v,VT w Y (q.K j) t v->VT w Y (q.K j) t' v)/\(p.ow j≠none->∀ e:List CT,t=.sl e->∃ e':List CT,t'=.sl e'/\e'.length=e.length/\∀ (i:Nat) (s s':CT),e[i]?=some s->e'[i]?=some s'->∀ (X':NP) (K':Nat) (v:Value),VT w X' K' s v->VT w X' K' s' v)):Fr X Z w0 L' Y C w:=by
 have back:∀ q ∈ L',∃ i p,p ∈ L/\L[i]?=some p/\L'[i]?=some q:=fun q hq=>by
  obtain ⟨i,hi⟩:=List.getElem?_of_mem hq;have A0:i<L.length:=by rw [<-hL];exact (e_ hi).1
  exact ⟨i,L[i],List.getElem_mem A0,ge_ A0,hi⟩
 refine ⟨h.kp,h.sub,h.lt,fun q hq=>?_,fun q hq j t hj ho=>?_,fun q hq j t et hj ho=>?_,fun p hp q hq i j u v g hne A1 A2 hi hj hu=>?_,?_⟩
 ·obtain ⟨i,p,hp,a1,a2⟩:=back q hq;obtain ⟨e1,e2,e3,e4,e5⟩:=hr i p q a1 a2;rw [e1,e4];exact h.blk p hp
 ·obtain ⟨i,p,hp,a1,a2⟩:=back q hq;obtain ⟨e1,e2,e3,e4,e5⟩:=hr i p q a1 a2;have A0:j<p.ts.length:=by rw [<-e4];exact (e_ hj).1
  rw [e2] at ho;obtain ⟨v,h1,h2⟩:=h.val p hp j _ (ge_ A0) ho;rw [e1];exact ⟨v,h1,(e5 j _ t (ge_ A0) hj).1 ho v (h2.kept (Kp.refl _ _) (fun _ _ h=>h) (e3 j))⟩
 ·obtain ⟨i,p,hp,a1,a2⟩:=back q hq;obtain ⟨e1,e2,e3,e4,e5⟩:=hr i p q a1 a2;have A0:j<p.ts.length:=by rw [<-e4];exact (e_ hj).1
  rw [e2] at ho;obtain ⟨e,A,n,c,h1,h2,h3,h4,h5⟩:=h.row p hp j _ et (ge_ A0) ho;obtain ⟨e',f1,f2,f3⟩:=(e5 j _ t (ge_ A0) hj).2 (fun e=>by rw [ho] at e;cases e) e h1;rw [e1];refine ⟨e',A,n,c,f1,h2,Nat.le_trans h3 (e3 j),?_,fun g hg=>⟨(h5 g hg).1,(h5 g hg).2.1,fun r A6=>?_⟩⟩
  ·obtain ⟨xs,o1,o2⟩:=h4;refine ⟨xs,by rw [f2];exact o1,fun k q t' hk hq=>?_⟩;have A3:q<e.length:=by rw [<-f2];exact (e_ hq).1
   obtain ⟨u,hu,hv⟩:=o2 k q _ hk (ge_ A3);rw [f2];exact ⟨u,hu,f3 q _ t' (ge_ A3) hq _ _ u (hv.kept (Kp.refl _ _) (fun _ _ h=>h) (e3 j))⟩
  obtain ⟨i',s,hs,b1,b2⟩:=back r A6;rw [(hr i' s r b1 b2).1];exact (h5 g hg).2.2 s hs
 ·obtain ⟨i1,p',A4,a1,a2⟩:=back p hp;obtain ⟨i2,q',A5,b1,b2⟩:=back q hq;obtain ⟨e1,e2,_⟩:=hr i1 p' p a1 a2;obtain ⟨f1,f2,_⟩:=hr i2 q' q b1 b2;rw [e1] at hi;rw [f1] at hj;rw [e1,f1] at hne;rw [e2] at A1;rw [f2] at A2;exact h.far p' A4 q' A5 i j u v g hne A1 A2 hi hj hu
 have:L'.map LV.b=L.map LV.b:=by
  apply List.ext_getElem?;intro i;rw [List.getElem?_map,List.getElem?_map];by_cases hi:i<L.length
  ·exact tr_
  rw [List.getElem?_eq_none o_,List.getElem?_eq_none o_]
 rw [this];exact h.nd
theorem Fr.row_set {e:List CT} {et:TypeId} {g n c k q:Nat} {t':CT} {u:Value} (h:Fr X Z w0 L Y C w) (hp:L[i]?=some ⟨b,K,ts,ow⟩) (hj:ts[j]?=some (.sl e)) (ho:ow j=some et) (hC:(C b)[j]?=some (.slice (some (a_ g)) n c))
  (hk:k<n) (hq:e[q]?=some t') (hu:VT w Y (K j) t' u) (ad:Addr) (had:ad=⟨g,k*e.length+q,none⟩):Fr X Z w0 L Y C (w.setCell ad u)/\Up w Y (w.setCell ad u) Y:=by
 have A9:=Fr.mem hp;obtain ⟨e1,A1,n1,c1,q1,q2,q3,q4,q5⟩:=h.row _ A9 j _ et hj ho;injection q1 with q1;subst q1;rw [show (C b)[j]?=some (.slice A1 n1 c1) from q2] at hC;injection hC with hC;injection hC with ha hb hc;subst ha hb hc;obtain ⟨A7,Ac,Ad⟩:=q5 g rfl;have Ae:Kp Y w (w.setCell ad u):=(Kp.refl _ w).setCell (.inl (by rw [had];exact A7)) u;have A3:Kp (fun k=>k=g) w (w.setCell ad u):=(Kp.refl _ w).setCell (.inl (by rw [had])) u;have Ab:Up w Y (w.setCell ad u) Y:=⟨Ae,fun _ _ h=>h⟩;have hg:w.grownBy (w.setCell ad u) (some g):=⟨A3.os,A3.tape,A3.output,A3.size,fun k A2 hne=>A3.block k A2 (fun e=>hne xq_)⟩;have hsz:(w.setCell ad u).heap.size=w:=by simp [World.setCell]
 refine ⟨⟨h.kp.setCell (by rw [had];rcases Ac with h1 | h1;exact .inr h1;exact .inl h1) u,h.sub,fun k A2=>by rw [hsz];exact h.lt k A2,fun p A0=>?_,fun p A0 i2 t A6 A4=>?_,fun p A0 i2 t Aa A6 A4=>?_,h.far,h.nd⟩,Ab⟩
 ·obtain ⟨h1,h2,h3,h4⟩:=h.blk p A0;exact ⟨h1,h2,h3.kp A3 (Ad p A0),h4⟩
 ·obtain ⟨v,h1,h2⟩:=h.val p A0 i2 t A6 A4;exact ⟨v,h1,h2.go Ab (l_)⟩
 obtain ⟨e2,A,n,c,h1,h2,h3,h4,h5⟩:=h.row p A0 i2 t Aa A6 A4;refine ⟨e2,A,n,c,h1,h2,h3,?_,h5⟩;by_cases hsame:p.b=b/\i2=j
 ·obtain ⟨A5,rfl⟩:=hsame;have:=nodup_eq h.nd A0 A9 A5;subst this;rw [show ts[i2]?=some t from A6] at hj;injection hj with hj;subst hj;injection h1 with h1;subst h1;rw [show (C b)[i2]?=some (.slice A n c) from h2] at q2;injection q2 with q2;injection q2 with r1 r2 r3;subst r1 r2 r3;rw [show ow i2=some Aa from A4] at ho;injection ho with ho;subst ho;exact h4.set hk hq (hu.kept (Kp.refl _ _) (fun k _ hn hy=>by
   rcases hy with hy | hy
   ·exact hn hy
   injection hy with hy;subst hy;exact hn A7) (l_)) ad had
 refine h4.stay hg (fun k A2=>?_);injection A2 with A2;subst A2;refine ⟨A7,fun A8=>?_⟩;refine h.far p A0 _ A9 i2 j (.slice A n c) (.slice (some (a_ g)) n1 c1) g ?_ (fun e=>by rw [A4] at e;cases e) (fun e=>by cases (show some et=none from ho.symm.trans e)) h2 q2 A8 rfl;by_cases A5:p.b=b
 ·exact .inr (fun e=>hsame ⟨A5,e⟩)
 exact .inl A5
theorem own_cut {base sz n c k:Nat} {et:TypeId} {A:OA} {xs:VL} (ho:w.ownsRow base et sz (.slice A n c) n xs) (hk:k<=n):w.ownsRow base et sz (.slice A k c) k (xs.take (k*sz)):=by
 have hm:k*sz<=n*sz:=Nat.mul_le_mul_right _ hk;refine ⟨by rw [List.length_take,ho.1];omega,?_⟩;rcases ho.2 with ⟨h',h0⟩ | ⟨g,cap,cur,h',hg,hr,h1,h2,h3,h4⟩
 ·injection h' with q1 q2 q3;subst q1 q3;obtain rfl:k=0:=by omega
  exact .inl ⟨rfl,rfl⟩
 injection h' with q1 q2 q3;subst q1 q3;exact .inr ⟨g,_,cur,rfl,hg,hr,o_,h2,h3,by rw [<-h4,List.take_take,Nat.min_eq_left hm]⟩
theorem OwT.cut {base n c k K:Nat} {et:TypeId} {e:List CT} {A:OA} (h:OwT w base et e Y K A n c) (hk:k<=n):OwT w base et e Y K A k c:=by
 obtain ⟨xs,ho,hx⟩:=h;refine ⟨_,own_cut ho hk,fun q j t hq hj=>?_⟩;obtain ⟨u,hu,hv⟩:=hx q j t o_ hj;refine ⟨u,?_,?_⟩
 ·have A0:j<e.length:=(e_ hj).1;have:q*e.length+e.length<=k*e.length:=by rw [<-Nat.succ_mul];exact Nat.mul_le_mul_right _ hq
  rw [List.getElem?_take,if_pos o_];exact hu
 cases A <;> exact hv
end
/- Generated code. -/
def idxP (N:Nat) (v:Value):Prop:=∃ i:Nat,v=i_ i/\i<N
def ptrP (qs:List Nat) (v:Value):Prop:=∃ q ∈ qs,v=.pointer (some (a_ q))
theorem idxP.up {N N':Nat} {v:Value} (h:idxP N v) (hN:N<=N'):idxP N' v:=by obtain ⟨i,rfl,hi⟩:=h;exact ⟨i,rfl,o_⟩
theorem ptrP.up {qs qs':List Nat} {v:Value} (h:ptrP qs v) (hq:∀ q ∈ qs,q ∈ qs'):ptrP qs' v:=by obtain ⟨i,hi,rfl⟩:=h;exact ⟨i,hq i hi,rfl⟩
theorem VT.sat_up {w:World} {X:NP} {K:Nat} {p p':Value->Prop} {v:Value} (h:VT w X K (.sat p) v) (hp:p v->p' v):VT w X K (.sat p') v:=by
 cases h with
 | sat _ _ h1 h2=>exact .sat _ _ h1 (hp h2)
theorem VT.sat_of {w:World} {X:NP} {K:Nat} {p:Value->Prop} {v:Value} (h:VT w X K (.sat p) v):p v:=by
 cases h with
 | sat _ _ h1 h2=>exact h2
def genT (N F:Nat) (pv:Nat->Value) (qs:List Nat):List CT:=[.sat (fun v=>v=pv 0),.sl aw_,.num,.sl [.num],.sl [.num],.sl [.sat (idxP N),.sat (idxP F)],.sl [.txt],.num,.num,.sl [.sat (ptrP qs)]]
def genOw:Nat->Option TypeId:=fun j=>if j=1 then some 202 else if j=3\/j=4 then some 3 else if j=5 then some 200 else if j=9 then some 305 else none
def genK (N:Nat):Nat->Nat:=fun j=>if j=6 then 900000000 else if j=9 then 1000 else N+1
def genV (b N F:Nat) (pv:Nat->Value) (qs:List Nat):LV:=⟨b,genK N,genT N F pv qs,genOw⟩
def atOw:Nat->Option TypeId:=fun j=>if j=0 then some 3 else none
def atV (N q:Nat):LV:=⟨q,fun _=>N+1,[.sl [.sat (idxP N)]],atOw⟩
def X34 (cs:VL) (pv:Nat->Value):Prop:=(∃ A c e,cs[3]?=some (.slice A e c)/\pv 3=i_ (e:Nat))/\∃ A c e,cs[4]?=some (.slice A e c)/\pv 4=i_ (e:Nat)
theorem X34.set {cs:VL} {pv:Nat->Value} (h:X34 cs pv) {j:Nat} (v:Value) (h3:j≠3) (h4:j≠4):X34 (cs.set j v) pv:=by
 obtain ⟨⟨A,c,e,a1,a2⟩,A',c',e',b1,b2⟩:=h;exact ⟨⟨A,c,e,by rw [gs_,if_neg h3];exact a1,a2⟩,A',c',e',by rw [gs_,if_neg h4];exact b1,b2⟩
def GC (b F:Nat) (pv:Nat->Value) (qs:List Nat) (N M o:Nat) (G:NP) (w:World):Prop :=
 ∃ C,Fr (fun _=>False) G w (genV b N F pv qs :: qs.map (atV N)) G C w/\(∃ A c,(C b)[1]?=some (.slice A M c))/\(∃ A c,(C b)[9]?=some (.slice A o c))/\X34 (C b) pv
section
variable {b F N M o:Nat} {pv:Nat->Value} {qs:List Nat} {G:NP} {w w':World}
theorem GC.below (h:GC b F pv qs N M o G w) (hb:Below w w w'):GC b F pv qs N M o G w':=by
 obtain ⟨C,f,h1,h2⟩:=h;exact ⟨C,(f.call hb).root,h1,h2⟩
theorem GC.lt (h:GC b F pv qs N M o G w):∀ k,G k->k<w:=by obtain ⟨C,f,_⟩:=h;exact f.lt
theorem GC.raise {N':Nat} (h:GC b F pv qs N M o G w) (hN:N<=N'):GC b F pv qs N' M o G w:=by
 obtain ⟨C,f,h1,h2⟩:=h;refine ⟨C,f.weak t_ (fun i p q hp hq=>?_),h1,h2⟩;cases i with
 | zero =>
  simp at hp hq;subst hp hq;refine ⟨rfl,rfl,fun j=>?_,rfl,fun j t t' ht A1=>?_⟩
  ·show genK N j<=genK N' j
   unfold genK;split;omega;split <;> omega
  have ht:(genT N F pv qs)[j]?=some t:=ht;have A1:(genT N' F pv qs)[j]?=some t':=A1;by_cases h5:j=5
  ·subst h5;injection ht with ht;injection A1 with A1;subst ht A1;refine ⟨x_,fun _ e he=>⟨_,rfl,x6_,fun i s s' hs A0 X' K' v hv=>?_⟩⟩;injection he with he;subst he
   match i,hs,A0 with
   | 0,hs,A0=>injection hs with hs;injection A0 with A0;subst hs A0;exact hv.sat_up (fun h=>h.up hN)
   | 1,hs,A0=>injection hs with hs;injection A0 with A0;subst hs A0;exact hv
  have:t'=t:=by
   have:(genT N' F pv qs)[j]?=(genT N F pv qs)[j]?:=by
    match j,h5 with
    | 0,_=>rfl
    | 1,_=>rfl
    | 2,_=>rfl
    | 3,_=>rfl
    | 4,_=>rfl
    | 5,h=>exact absurd rfl h
    | 6,_=>rfl
    | 7,_=>rfl
    | 8,_=>rfl
    | 9,_=>rfl
    | j+10,_=>rfl
   rw [A1,ht] at this;injection this
  exact up_
 | succ i =>
  simp at hp hq;obtain ⟨a,ha,rfl⟩:=hp;rw [ha] at hq;simp at hq;subst hq;refine ⟨rfl,rfl,fun j=>(by show N+1<=N'+1;omega),rfl,fun j t t' ht A1=>?_⟩;have ht:([.sl [.sat (idxP N)]]:List CT)[j]?=some t:=ht;have A1:([.sl [.sat (idxP N')]]:List CT)[j]?=some t':=A1
  match j,ht,A1 with
  | 0,ht,A1 =>
   injection ht with ht;injection A1 with A1;subst ht A1;refine ⟨x_,fun _ e he=>⟨_,rfl,x6_,fun i s s' hs A0 X' K' v hv=>?_⟩⟩;injection he with he;subst he
   match i,hs,A0 with
   | 0,hs,A0=>injection hs with hs;injection A0 with A0;subst hs A0;exact hv.sat_up (fun h=>h.up hN)
def KpC (b:Nat) (qs:List Nat) (j:Nat) (w w':World):Prop:=(∀ q ∈ qs,w'.cell? (a_ q)=w.cell? (a_ q))/\∀ i,i<10->i≠j->w'.cell? (f_ b i)=w.cell? (f_ b i)
theorem GC.own {e:List CT} {et:TypeId} {j:Nat} (h:GC b F pv qs N M o G w) (hj:(genT N F pv qs)[j]?=some (.sl e)) (ho:genOw j=some et):∃ A n c,w.cell? (f_ b j)=some (.slice A n c)/\n<=genK N j/\OwT w 0 et e G (genK N j) A n c/\(∀ g,(Value.slice A n c).ownBlock=some g->G g)/\(j=1->n=M)/\(j=9->n=o):=by
 obtain ⟨C,f,⟨A1,c1,h1⟩,⟨A9,c9,h9⟩,hx⟩:=h;obtain ⟨A,n,c,g1,g2,g3,g4,g5⟩:=f.own (i:=0) rfl hj ho;refine ⟨A,n,c,g1,g3,g4,g5,fun A0=>?_,fun A2=>?_⟩
 ·subst A0;rw [h1] at g2;injection g2 with g2;injection g2 with _ g2 _;exact g2.symm
 subst A2;rw [h9] at g2;injection g2 with g2;injection g2 with _ g2 _;exact g2.symm
theorem GC.cell {t:CT} {j:Nat} (h:GC b F pv qs N M o G w) (hj:(genT N F pv qs)[j]?=some t) (ho:genOw j=none):∃ v,w.cell? (f_ b j)=some v/\VT w G (genK N j) t v:=by
 obtain ⟨C,f,_⟩:=h;obtain ⟨v,_,g1,g2⟩:=f.get (i:=0) rfl hj ho;exact ⟨v,g1,g2⟩
theorem GC.fz (h:GC b F pv qs N M o G w) (j:Nat):w.frozen? (f_ b j)=false:=by
 obtain ⟨C,f,_⟩:=h;exact f.fz (i:=0) rfl j
theorem GC.blt (h:GC b F pv qs N M o G w):b<w:=by
 obtain ⟨C,f,_⟩:=h;exact f.blt (i:=0) rfl
theorem mem_at {L:List LV} {q N:Nat} (hq:q ∈ qs) (hL:L=genV b N F pv qs :: qs.map (atV N)):∃ i:Nat,L[i]?=some (⟨q,fun _=>N+1,[.sl [.sat (idxP N)]],atOw⟩:LV):=by
 subst hL;obtain ⟨i,hi⟩:=List.getElem?_of_mem hq;exact ⟨i+1,by rw [List.getElem?_cons_succ,List.getElem?_map,hi];rfl⟩
theorem GC.at_own {q:Nat} (h:GC b F pv qs N M o G w) (hq:q ∈ qs):∃ A n c,w.cell? (a_ q)=some (.slice A n c)/\n<=N+1/\OwT w 0 3 [.sat (idxP N)] G (N+1) A n c/\(∀ g,(Value.slice A n c).ownBlock=some g->G g)/\w.frozen? (a_ q)=false/\G q/\q≠b:=by
 obtain ⟨C,f,_⟩:=h;obtain ⟨i,hi⟩:=mem_at (b:=b) (F:=F) (pv:=pv) (N:=N) hq rfl;obtain ⟨A,n,c,g1,g2,g3,g4,g5⟩:=f.own (i:=i) hi (j:=0) rfl (show atOw 0=some 3 from rfl);refine ⟨A,n,c,g1,g3,g4,g5,f.fz hi 0,(f.blk _ (Fr.mem hi)).1,fun e=>?_⟩;have hn:=f.nd;rw [List.map_cons,List.nodup_cons] at hn;refine hn.1 (List.mem_map.2 ⟨atV N q,List.mem_map.2 ⟨q,hq,rfl⟩,e⟩)
theorem GC.kpc_of {X Z Y:NP} {w0 w1:World} {L:List LV} {C C':Nat->VL} {j:Nat} (hL:L=genV b N F pv qs :: qs.map (atV N)) {X' Z' Y':NP} {w0':World} (f:Fr X Z w0 L Y C w) (f':Fr X' Z' w0' L Y' C' w1) (hC:∀ k,k≠b->C' k=C k) (hb:∀ i,i≠j->(C' b)[i]?=(C b)[i]?):KpC b qs j w w1:=by
 refine ⟨fun q hq=>?_,fun i hi A1=>?_⟩
 ·obtain ⟨i,hi⟩:=mem_at (b:=b) (F:=F) (pv:=pv) (N:=N) hq hL;have A2:q≠b:=fun e=>by
   have hn:=f.nd;rw [hL,List.map_cons,List.nodup_cons] at hn;exact hn.1 (List.mem_map.2 ⟨atV N q,List.mem_map.2 ⟨q,hq,rfl⟩,e⟩)
  have A0:0<(C q).length:=by rw [f.len hi];simp
  rw [f.cell hi (ge_ A0),f'.cell hi (by rw [hC q A2];exact ge_ A0)]
 have h0:L[0]?=some ⟨b,genK N,genT N F pv qs,genOw⟩:=by rw [hL];rfl
 have A0:i<(C b).length:=by rw [f.len h0];exact hi
 rw [f.cell h0 (ge_ A0),f'.cell h0 (by rw [hb i A1];exact ge_ A0)]
theorem GC.grow {e:List CT} {et:TypeId} {j n n' c c':Nat} {A A':OA} (h:GC b F pv qs N M o G w) (hj:(genT N F pv qs)[j]?=some (.sl e)) (ho:genOw j=some et) (hc:w.cell? (f_ b j)=some (.slice A n c))
  (hO:OwT w' 0 et e G (genK N j) A' n' c') (hn:n'<=genK N j) (hg:w.grownBy w' (Value.slice A n c).ownBlock) (hloc:∀ g,(Value.slice A' n' c').ownBlock=some g->(Value.slice A n c).ownBlock=some g\/g=w) (h34:j≠3/\j≠4:=by decide) :
  ∃ G',GC b F pv qs N (if j=1 then n' else M) (if j=9 then n' else o) G' (w'.setCell (f_ b j) (.slice A' n' c'))/\Up w G (w'.setCell (f_ b j) (.slice A' n' c')) G'/\KpC b qs j w (w'.setCell (f_ b j) (.slice A' n' c')):=by
 obtain ⟨C,f,⟨A1,c1,h1⟩,⟨A9,c9,h9⟩,hx⟩:=h;obtain ⟨A2,n2,c2,g1,g2,_⟩:=f.own (i:=0) rfl hj ho;rw [hc] at g1;injection g1 with g1;injection g1 with q1 q2 q3;subst q1 q2 q3;obtain ⟨G',f',u'⟩:=f.append (i:=0) rfl hj ho g2 hO hn hg hloc;have A3:j<(C b).length:=(e_ g2).1;have A0:(upd C b ((C b).set j (.slice A' n' c'))) b=(C b).set j (.slice A' n' c'):=upd_same _ _ _;refine ⟨G',⟨_,f'.root,?_,?_,by rw [A0];exact hx.set _ h34.1 h34.2⟩,u',GC.kpc_of rfl f f' (fun k hk=>ad_ _ _ hk) (fun i hi=>by rw [A0,gs_,if_neg (fun e=>hi e.symm)])⟩
 ·by_cases hj1:j=1
  ·subst hj1;exact ⟨A',c',by rw [A0,gs_,if_pos rfl,if_pos A3];rfl⟩
  exact ⟨A1,c1,by rw [A0,gs_,if_neg hj1,if_neg hj1];exact h1⟩
 by_cases hj1:j=9
 ·subst hj1;exact ⟨A',c',by rw [A0,gs_,if_pos rfl,if_pos A3];rfl⟩
 exact ⟨A9,c9,by rw [A0,gs_,if_neg hj1,if_neg hj1];exact h9⟩
theorem GC.set {t:CT} {v:Value} {j:Nat} (h:GC b F pv qs N M o G w) (hj:(genT N F pv qs)[j]?=some t) (ho:genOw j=none) (hv:VT w G (genK N j) t v):GC b F pv qs N M o G (w.setCell (f_ b j) v)/\Up w G (w.setCell (f_ b j) v) G/\KpC b qs j w (w.setCell (f_ b j) v):=by
 obtain ⟨C,f,⟨A1,c1,h1⟩,⟨A9,c9,h9⟩,hx⟩:=h;obtain ⟨f',u'⟩:=f.set (i:=0) (j:=j) rfl hj ho hv;have A2:j≠1:=fun e=>by subst e;cases ho
 have A3:j≠9:=fun e=>by subst e;cases ho
 have A0:(upd C b ((C b).set j v)) b=(C b).set j v:=upd_same _ _ _;exact ⟨⟨_,f'.root,⟨A1,c1,by rw [A0,gs_,if_neg A2];exact h1⟩,⟨A9,c9,by rw [A0,gs_,if_neg A3];exact h9⟩,by rw [A0];exact hx.set _ (fun e=>by subst e;cases ho) (fun e=>by subst e;cases ho)⟩,u',GC.kpc_of rfl f f' (fun k hk=>ad_ _ _ hk) (fun i hi=>by rw [A0,gs_,if_neg (fun e=>hi e.symm)])⟩
theorem GC.at_grow {q n n' c c':Nat} {A A':OA} (h:GC b F pv qs N M o G w) (hq:q ∈ qs) (hc:w.cell? (a_ q)=some (.slice A n c))
  (hO:OwT w' 0 3 [.sat (idxP N)] G (N+1) A' n' c') (hn:n'<=N+1) (hg:w.grownBy w' (Value.slice A n c).ownBlock) (hloc:∀ g,(Value.slice A' n' c').ownBlock=some g->(Value.slice A n c).ownBlock=some g\/g=w) :
  ∃ G',GC b F pv qs N M o G' (w'.setCell (a_ q) (.slice A' n' c'))/\Up w G (w'.setCell (a_ q) (.slice A' n' c')) G':=by
 have A0:q≠b:=by obtain ⟨_,_,_,_,_,_,_,_,_,h⟩:=h.at_own hq;exact h
 obtain ⟨C,f,⟨A1,c1,h1⟩,⟨A9,c9,h9⟩,hx⟩:=h;obtain ⟨i,hi⟩:=mem_at (b:=b) (F:=F) (pv:=pv) (N:=N) hq rfl;obtain ⟨A2,n2,c2,g1,g2,_⟩:=f.own (i:=i) hi (j:=0) rfl (show atOw 0=some 3 from rfl);rw [hc] at g1;injection g1 with g1;injection g1 with q1 q2 q3;subst q1 q2 q3;obtain ⟨G',f',u'⟩:=f.append (i:=i) hi (j:=0) rfl (show atOw 0=some 3 from rfl) g2 hO hn hg hloc;exact ⟨G',⟨_,f'.root,⟨A1,c1,by rw [ad_ _ _ A0.symm];exact h1⟩,⟨A9,c9,by rw [ad_ _ _ A0.symm];exact h9⟩,by rw [ad_ _ _ A0.symm];exact hx⟩,u'⟩
theorem GC.new_at (h:GC b F pv qs N M o G w) (ty:TypeId):∃ G',GC b F pv (w.heap.size :: qs) N M o G' (w.alloc (.cells #[.slice none 0 0] ty))/\Up w G (w.alloc (.cells #[.slice none 0 0] ty)) G':=by
 have A4:=h.blt;obtain ⟨C,f,⟨A1,c1,h1⟩,⟨A9,c9,h9⟩,hx⟩:=h;obtain ⟨G',f',u'⟩:=f.add (fun _=>N+1) [.sl [.sat (idxP N)]] atOw [.slice none 0 0] ty rfl (fun j t hj=>by
  match j,hj with
  | 0,hj=>injection hj with hj;subst hj;exact ⟨_,rfl,.inr ⟨_,_,rfl,rfl,rfl⟩⟩)
 have f2:=f'.swap;have f3:Fr (fun _=>False) G w (genV b N F pv (w.heap.size :: qs) :: (w.heap.size :: qs).map (atV N)) G' (upd C w.heap.size [.slice none 0 0]) (w.alloc (.cells #[.slice none 0 0] ty)):=by
  refine f2.weak t_ (fun i p q hp hq=>?_);cases i with
  | zero =>
   simp at hp hq;subst hp hq;refine ⟨rfl,rfl,fun j=>l_,rfl,fun j t t' ht A2=>?_⟩;have ht:(genT N F pv qs)[j]?=some t:=ht;have A2:(genT N F pv (w.heap.size :: qs))[j]?=some t':=A2;by_cases h9:j=9
   ·subst h9;injection ht with ht;injection A2 with A2;subst ht A2;refine ⟨x_,fun _ e he=>⟨_,rfl,x6_,fun i s s' hs A0 X' K' v hv=>?_⟩⟩;injection he with he;subst he
    match i,hs,A0 with
    | 0,hs,A0=>injection hs with hs;injection A0 with A0;subst hs A0;exact hv.sat_up (fun h=>h.up (fun q hq=>.tail _ hq))
   have:t'=t:=by
    have:(genT N F pv (w.heap.size :: qs))[j]?=(genT N F pv qs)[j]?:=by
     match j,h9 with
     | 0,_=>rfl
     | 1,_=>rfl
     | 2,_=>rfl
     | 3,_=>rfl
     | 4,_=>rfl
     | 5,_=>rfl
     | 6,_=>rfl
     | 7,_=>rfl
     | 8,_=>rfl
     | 9,h=>exact absurd rfl h
     | j+10,_=>rfl
    rw [A2,ht] at this;injection this
   exact up_
  | succ i =>
   have A3:p=q:=by
    cases i with
    | zero=>simp at hp hq;rw [<-hp,<-hq];rfl
    | succ i=>simp at hp hq;obtain ⟨a,ha,rfl⟩:=hp;rw [ha] at hq;simpa using hq
   subst A3;exact ⟨rfl,rfl,fun j=>l_,rfl,fun j t t' ht A2=>by
    rw [ht] at A2;injection A2 with A2;subst A2
    exact ⟨fun _ v h=>h,fun _ e he=>⟨e,he,rfl,fun i s s' hs A0 X' K' v hv=>by rw [hs] at A0;injection A0 with A0;subst A0;exact hv⟩⟩⟩
 exact ⟨G',⟨_,f3.root,⟨A1,c1,by rw [ad_ _ _ o_];exact h1⟩,⟨A9,c9,by rw [ad_ _ _ o_];exact h9⟩,by rw [ad_ _ _ o_];exact hx⟩,u'⟩
theorem GC.patch {g c k q:Nat} {n:Int} (h:GC b F pv qs N M o G w) (hc:w.cell? (f_ b 1)=some (.slice (some (a_ g)) M c)) (hk:k<M) (hq:q<5) (ad:Addr) (had:ad=⟨g,k*5+q,none⟩):GC b F pv qs N M o G (w.setCell ad (i_ n))/\Up w G (w.setCell ad (i_ n)) G/\KpC b qs 10 w (w.setCell ad (i_ n)):=by
 obtain ⟨C,f,⟨A1,c1,h1⟩,⟨A9,c9,h9⟩,hx⟩:=h;have A0:=f.cell (i:=0) rfl h1;rw [hc] at A0;injection A0 with A0;injection A0 with q1 q2 q3;subst q1 q3;obtain ⟨f',u'⟩:=f.row_set (i:=0) (j:=1) (e:=aw_) (et:=202) rfl rfl rfl h1 hk (q:=q) (t':=.num) (by
  match q,hq with
  | 0,_=>rfl
  | 1,_=>rfl
  | 2,_=>rfl
  | 3,_=>rfl
  | 4,_=>rfl) (u:=.int .i64 n) (.num _) ad had
 exact ⟨⟨C,f'.root,⟨_,_,h1⟩,⟨A9,c9,h9⟩,hx⟩,u',GC.kpc_of (j:=10) rfl f f' (fun _ _=>rfl) (fun _ _=>rfl)⟩
theorem GC.len34 (h:GC b F pv qs N M o G w):(∃ A c e,w.cell? (f_ b 3)=some (.slice A e c)/\pv 3=i_ (e:Nat))/\∃ A c e,w.cell? (f_ b 4)=some (.slice A e c)/\pv 4=i_ (e:Nat):=by
 obtain ⟨C,f,_,_,⟨A,c,e,a1,a2⟩,A',c',e',b1,b2⟩:=h;exact ⟨⟨A,c,e,f.cell (i:=0) rfl a1,a2⟩,A',c',e',f.cell (i:=0) rfl b1,b2⟩
def upv (pv:Nat->Value) (j n:Nat):Nat->Value:=fun i=>if i=j then i_ (n:Int) else pv i
theorem GC.grow34 {j n n' c c':Nat} {A A':OA} (h:GC b F pv qs N M o G w) (hj:j=3\/j=4) (hc:w.cell? (f_ b j)=some (.slice A n c))
  (hO:OwT w' 0 3 [.num] G (N+1) A' n' c') (hn:n'<=N+1) (hg:w.grownBy w' (Value.slice A n c).ownBlock) (hloc:∀ g,(Value.slice A' n' c').ownBlock=some g->(Value.slice A n c).ownBlock=some g\/g=w) :
  ∃ G',GC b F (upv pv j n') qs N M o G' (w'.setCell (f_ b j) (.slice A' n' c'))/\Up w G (w'.setCell (f_ b j) (.slice A' n' c')) G'/\KpC b qs j w (w'.setCell (f_ b j) (.slice A' n' c')):=by
 have A5:(genT N F pv qs)[j]?=some (.sl [.num])/\genOw j=some 3/\genK N j=N+1/\j≠1/\j≠9:=by rcases hj with rfl | rfl <;> exact ⟨rfl,rfl,rfl,d_,d_⟩
 obtain ⟨e1,e2,e3,e4,e5⟩:=A5;obtain ⟨C,f,⟨A1,c1,h1⟩,⟨A9,c9,h9⟩,hx⟩:=h;obtain ⟨A2,n2,c2,g1,g2,_⟩:=f.own (i:=0) rfl e1 e2;rw [hc] at g1;injection g1 with g1;injection g1 with q1 q2 q3;subst q1 q2 q3;obtain ⟨G',f',u'⟩:=f.append (i:=0) rfl e1 e2 g2 (by rw [e3];exact hO) (by rw [e3];exact hn) hg hloc;have A4:j<(C b).length:=(e_ g2).1;have A0:(upd C b ((C b).set j (.slice A' n' c'))) b=(C b).set j (.slice A' n' c'):=upd_same _ _ _;have A3:genV b N F (upv pv j n') qs=genV b N F pv qs:=by
  unfold genV genT upv;have:(0:Nat)≠j:=by rcases hj with rfl | rfl <;> decide
  rw [if_neg this]
 refine ⟨G',⟨_,by rw [A3];exact f'.root,⟨A1,c1,by rw [A0,gs_,if_neg e4];exact h1⟩,⟨A9,c9,by rw [A0,gs_,if_neg e5];exact h9⟩,?_⟩,u',GC.kpc_of rfl f f' (fun k hk=>ad_ _ _ hk) (fun i hi=>by rw [A0,gs_,if_neg (fun e=>hi e.symm)])⟩;rw [A0];obtain ⟨⟨B3,b3,m3,a1,a2⟩,B4,b4,m4,b1,b2⟩:=hx;rcases hj with rfl | rfl
 ·exact ⟨⟨A',c',n',by rw [gs_,if_pos rfl,if_pos A4],by simp [upv]⟩,B4,b4,m4,by rw [gs_,if_neg d_];exact b1,by simp [upv];exact b2⟩
 exact ⟨⟨B3,b3,m3,by rw [gs_,if_neg d_];exact a1,by simp [upv];exact a2⟩,A',c',n',by rw [gs_,if_pos rfl,if_pos A4],by simp [upv]⟩
theorem GC.start (w:World) (b F:Nat) (hb:b=w) (PA:OA) (pn pc:Nat) (ty:TypeId):∃ G,GC b F (fun i=>if i=0 then .slice PA pn pc else i_ 0) [] 0 0 0 G (w.alloc (.cells #[.slice PA pn pc,.slice none 0 0,i_ 0,.slice none 0 0,.slice none 0 0,.slice none 0 0,.slice none 0 0,i_ 0,i_ 0,.slice none 0 0] ty))/\Up w (fun _=>False) (w.alloc (.cells #[.slice PA pn pc,.slice none 0 0,i_ 0,.slice none 0 0,.slice none 0 0,.slice none 0 0,.slice none 0 0,i_ 0,i_ 0,.slice none 0 0] ty)) G:=by
 subst hb;have f0:=Fr.nil (X:=fun _=>False) (w:=w) (fun _ h=>h.elim) (fun _=>False) (fun _=>[]);obtain ⟨G,f,u⟩:=f0.add (genK 0) (genT 0 F (fun i=>if i=0 then .slice PA pn pc else i_ 0) []) genOw [.slice PA pn pc,.slice none 0 0,i_ 0,.slice none 0 0,.slice none 0 0,.slice none 0 0,.slice none 0 0,i_ 0,i_ 0,.slice none 0 0] ty rfl (fun j t hj=>by
  have A1:j<10:=(e_ hj).1
  match j,A1,hj with
  | 0,_,hj=>injection hj with hj;subst hj;exact ⟨_,rfl,.inl ⟨rfl,.sat _ _ rfl rfl⟩⟩
  | 1,_,hj=>injection hj with hj;subst hj;exact ⟨_,rfl,.inr ⟨_,_,rfl,rfl,rfl⟩⟩
  | 2,_,hj=>injection hj with hj;subst hj;exact ⟨_,rfl,.inl ⟨rfl,.num _⟩⟩
  | 3,_,hj=>injection hj with hj;subst hj;exact ⟨_,rfl,.inr ⟨_,_,rfl,rfl,rfl⟩⟩
  | 4,_,hj=>injection hj with hj;subst hj;exact ⟨_,rfl,.inr ⟨_,_,rfl,rfl,rfl⟩⟩
  | 5,_,hj=>injection hj with hj;subst hj;exact ⟨_,rfl,.inr ⟨_,_,rfl,rfl,rfl⟩⟩
  | 6,_,hj=>injection hj with hj;subst hj;exact ⟨_,rfl,.inl ⟨rfl,.nil _⟩⟩
  | 7,_,hj=>injection hj with hj;subst hj;exact ⟨_,rfl,.inl ⟨rfl,.num _⟩⟩
  | 8,_,hj=>injection hj with hj;subst hj;exact ⟨_,rfl,.inl ⟨rfl,.num _⟩⟩
  | 9,_,hj=>injection hj with hj;subst hj;exact ⟨_,rfl,.inr ⟨_,_,rfl,rfl,rfl⟩⟩)
 have A0:(upd (fun _=>[]) w [.slice PA pn pc,.slice none 0 0,i_ 0,.slice none 0 0,.slice none 0 0,.slice none 0 0,.slice none 0 0,i_ 0,i_ 0,.slice none 0 0]) (w:Nat)=([.slice PA pn pc,.slice none 0 0,i_ 0,.slice none 0 0,.slice none 0 0,.slice none 0 0,.slice none 0 0,i_ 0,i_ 0,.slice none 0 0]:VL):=upd_same _ _ _;exact ⟨G,⟨_,f.root,⟨none,0,xs_⟩,⟨none,0,xs_⟩,⟨none,0,0,xs_,rfl⟩,none,0,0,xs_,rfl⟩,u⟩
end
end Go.Proofs.YtfolidlmgfhkiaaGreat
namespace Go.Proofs.YtfolidlmgfhkiaaGreat
open Go.RowKit Go.Proofs.Tryz
theorem Mv.broken {l:List In} {pc:Int} {vs:VL} (h:vs[81]?=some (.bool true)):Mv l pc vs:=fun _ _ _ _ h3=>by rw [h] at h3;cases h3
theorem ds_ {X Z Y:NP} {w0:World} {LL:List LV} {b K L:Nat} {l:List In} {pc:Int} {C:Nat->VL} (w:World) (h:OneS X Z w0 LL b K L l pc Y C w) (hK:K<=1000000000) (hL:L<=100000) (id f:Int) :
  Calls prog 124 #[.pointer (some (a_ b)),i_ id,i_ f] w fun e w'=>(∃ v:Val,e=.returned (.agg #[.bool v.ref,i_ v.n]))/\Ms X Z w0 LL b K (L+1) l pc Y C w w' (fun j=>j≠72/\j≠81):=by
 obtain ⟨i0,z0,Aq,As,Ar,Ap,Au⟩:=ei_cell.hi;obtain ⟨A0,n0,c0,_,Af,Ai,_,_⟩:=h.fr.own (i:=0) rfl (j:=72) (e:=ap_) (et:=87) rfl rfl;have AD:n0<=L:=Ai;have HS:=q_ (h.raise (Nat.le_succ L));obtain ⟨W,Y1,C1,hW,Ax,u1,f1,c1,cO⟩:=HS.o.fr.add1 0 valT [.bool false,i_ 0] 38 (vtsval _ _);have AC:=HS.o.fr.blt (i:=0) rfl;obtain ⟨HA,hn,hc,Av,hH,Am⟩:=f1.slc (i:=1) rfl (j:=36) (e:=objT) rfl rfl;have HH:=h_ (SlT W Y1 K objT HA hn hc) hH;have F1:=q_ f1;have U1:=q_ u1;have Ak:=q_ c1;have Ae:=q_ cO;have Aj:=q_ Af;clear h f1 u1 c1 cO hH Ai Af Am;go_enter func124,ntmps124;go_upto_region 1 with fail;rw [<-hW];clear hW;go_wp2_with fail;refine (Read_t Y1 K HA hn hc id f W HH.o o_).mono ?_;rintro e S ⟨⟨v,ok,rfl⟩,hS⟩;have F2:=q_ (F1.o.call hS);have U2:=q_ (U1.o.trans (Up.of_below hS));clear hS Av;obtain ⟨V,Y3,C3,hV,Ao,u3,f3,c3,A8⟩:=F2.o.add1 0 valT [.bool v.ref,i_ v.n] 38 (vtsval _ _);have AB:=F2.o.blt (i:=1) rfl;have AE:=F2.o.blt (i:=0) rfl;have Ad:=f3.tru (i:=2) rfl (j:=81) rfl rfl;obtain ⟨bk,Ad,_⟩:=Ad;have eb:C3 b=C b:=by rw [A8 b o_,Ae.o b o_]
 have er:C3 w=[.bool false,i_ 0]:=by rw [A8 _ o_];exact Ak.o
 have U3:=q_ (U2.o.trans u3);have F3:=q_ f3;have A2:=q_ eb;have A3:=q_ er;have A7:=q_ c3;have Aa:=h_ (∀ q,q<w.heap.size->C3 q=C q) (fun q hq=>by rw [A8 q o_,Ae.o q o_]);have v0:=f3.cell (i:=0) rfl (j:=0) (by rw [c3];rfl);have v1:=f3.cell (i:=0) rfl (j:=1) (by rw [c3];rfl);have r0:=f3.cell (i:=1) rfl (j:=0) (by rw [er];rfl);have r1:=f3.cell (i:=1) rfl (j:=1) (by rw [er];rfl);have fr:=f3.fz (i:=1) rfl;have fb:=f3.fz (i:=2) rfl;clear u3 f3 c3 A8 eb er Ao;go_upto_region 2 with fail;rw [<-hV];clear hV;cases ok
 ·obtain ⟨f4,u4⟩:=F3.o.set (i:=2) (j:=81) (t:=.tru) (v:=.bool true) rfl rfl rfl (.tru _);obtain ⟨f5,u5⟩:=f4.set (i:=1) (j:=0) (t:=.tru) (v:=.bool false) rfl rfl rfl (.tru _);obtain ⟨f6,u6⟩:=f5.set (i:=1) (j:=1) (t:=.num) (v:=i_ 0) rfl rfl rfl (.num _);go_wp2;refine retC results124 za_ underlying38 rfl (f6.info (i:=1) rfl isz_38) (f6.box (i:=1) rfl).whole rfl ?_;have hne:w≠b:=by omega
  have A1:b≠w:=by omega
  refine ⟨⟨⟨false,0⟩,?_⟩,Y3,_,HS.o.go (LL':=LL) f6.tail.tail (((U3.o.trans u4).trans u5).trans u6) (fun j hj=>?_) (fun _=>Mv.broken ?_),((U3.o.trans u4).trans u5).trans u6,fun q hq A6=>?_,fun j hj=>?_⟩
  ·rw [upd_same,upd_same,ad_ _ _ hne,A3.o];rfl
  ·exact ue_
  ·rw [ad_ _ _ A1,ad_ _ _ A1,upd_same,gs_,if_pos rfl,if_pos (by have:=F3.o.len (i:=2) rfl;rw [this];decide)]
  ·rw [ad_ _ _ o_,ad_ _ _ o_,ad_ _ _ hq,Aa.o q A6]
  exact ue_
 obtain ⟨A,n,c,Ac,hC,hn,hO,hY⟩:=F3.o.own (i:=2) rfl (j:=72) (e:=ap_) (et:=87) rfl rfl;have A9:=hC;rw [A2.o,Aj.o] at A9;injection A9 with A9;injection A9 with q1 q2 q3;subst q1 q2 q3;have HC:=q_ hC;have HY:=q_ hY;have HO:=h_ (OwT V 0 87 ap_ Y3 (L+1) A0 n0 c0) hO;have HL:=q_ (HO.o.any (by omega:n0<=L+1));have KS:=h_ (∀ w',Below V V w'->(w'.cell? (a_ S)=some (.bool v.ref)/\w'.cell? (f_ S 1)=some (i_ v.n)/\w'.cell? (a_ w)=some (.bool false)/\w'.cell? (f_ w 1)=some (i_ 0)/\(∀ j,w'.frozen? (f_ w j)=false)/\w'.cell? (f_ b 72)=some (.slice A0 n0 c0))) (fun w' hb=>by
  have F':=F3.o.call hb
  exact ⟨F'.cell (i:=0) rfl (j:=0) (by rw [A7.o];rfl),F'.cell (i:=0) rfl (j:=1) (by rw [A7.o];rfl),F'.cell (i:=1) rfl (j:=0) (by rw [A3.o];rfl),F'.cell (i:=1) rfl (j:=1) (by rw [A3.o];rfl),F'.fz (i:=1) rfl,F'.cell (i:=2) rfl HC.o⟩)
 clear hn hC hO hY Ad v0 v1 r0 r1 fr fb;go_upto_region 6 with fail;clear Ac;go_loopw [33] (fun i wr=>∃ k:Nat,k<=n0/\i=i_ k/\Below V V wr) (fun i _=>n0 - (intOf i).toNat)
 case atStart=>exact ⟨0,o_,rfl,b_⟩
 obtain ⟨k,hk,rfl,hb⟩:=hrel;have HB:=q_ hb;by_cases hlt:k<n0
 ·have Ab:(k:Int)<(n0:Int):=by omega
  obtain ⟨g,o,hA,hg,x,hx⟩:=HL.o.dr_ hlt;subst hA;obtain ⟨c4,c5,c6,c7⟩:=hx wr hb;obtain ⟨S1,Ag,Ah,An,S0⟩:=af_ wr [i_ x.id,i_ x.field,.bool x.ref,i_ x.n] 87;have s0:=S0.2.1 0 _ rfl;have s1:=S0.2.1 1 _ rfl;have A4:=q_ (hb.trans (Ah.mono hb.size));obtain ⟨v0,v1,r0,r1,fr,_⟩:=KS.o S1 A4.o;clear hx hb Ah An S0;go_upto_region 8 with fail;rw [<-Ag];clear Ag c4 c5 c6 c7;by_cases h1:x.id=id
  ·by_cases h2:x.field=f
   ·have F5:=F3.o.call A4.o;obtain ⟨f6,u6⟩:=F5.set (i:=1) (j:=0) (t:=.tru) (v:=.bool v.ref) rfl rfl rfl (.tru _);obtain ⟨f7,u7⟩:=f6.set (i:=1) (j:=1) (t:=.num) (v:=i_ v.n) rfl rfl rfl (.num _);go_wp2;refine retC results124 za_ underlying38 rfl (f7.info (i:=1) rfl isz_38) (f7.box (i:=1) rfl).whole rfl ?_;have hne:w≠b:=by omega
    have A1:b≠w:=by omega
    refine ⟨⟨v,?_⟩,Y3,_,HS.o.go (LL':=LL) f7.tail.tail (((U3.o.trans (.of_below A4.o)).trans u6).trans u7) (fun j hj=>?_) (fun hm=>?_),((U3.o.trans (.of_below A4.o)).trans u6).trans u7,fun q hq A6=>?_,fun j hj=>?_⟩
    ·rw [upd_same,upd_same,A3.o];rfl
    ·rw [ad_ _ _ A1,ad_ _ _ A1,A2.o]
    ·rw [ad_ _ _ A1,ad_ _ _ A1,A2.o];exact hm
    ·rw [ad_ _ _ o_,ad_ _ _ o_,Aa.o q A6]
    rw [ad_ _ _ A1,ad_ _ _ A1,A2.o]
   go_wp2;go_roundw
   case rel=>exact ⟨k+1,o_,zb_,A4.o⟩
   case measure=>exact me_
  go_wp2;go_roundw
  case rel=>exact ⟨k+1,o_,zb_,A4.o⟩
  case measure=>exact me_
 have Ab:¬(k:Int)<(n0:Int):=by omega
 have F4:=q_ (F3.o.call hb);have U4:=q_ (U3.o.trans (Up.of_below hb));have HA:=h_ (Below wr wr (wr.drew.alloc (.cells #[i_ id,i_ f,.bool v.ref,i_ v.n] 87))) ((Below.drew (b_)).alloc (l_) _);have Al:=h_ (OwT (wr.drew.alloc (.cells #[i_ id,i_ f,.bool v.ref,i_ v.n] 87)) 0 87 ap_ Y3 (L+1) A0 n0 c0) ((HO.o.below hb).below HA.o);have HU:=h_ (SlT (wr.drew.alloc (.cells #[i_ id,i_ f,.bool v.ref,i_ v.n] 87)) (Wi Y3 (Value.slice A0 n0 c0).ownBlock) (L+1) ap_ (some (a_ wr)) 1 1) ((SlT.lit1 (w:=wr.drew) (e:=ap_) (dz_ id f v.ref v.n) _ (fun h=>Nat.lt_irrefl _ (F4.o.lt _ h)) o_).kept (Kp.refl _ _) (fun k _ h1 h2=>h2.elim h1 (fun h3=>h1 (HY.o k h3))) (l_));have HG:=h_ (∀ w',(wr.drew.alloc (.cells #[i_ id,i_ f,.bool v.ref,i_ v.n] 87)).grownBy w' (Value.slice A0 n0 c0).ownBlock->(Bx w' b (C3 b)/\∀ (i:Nat) (p:LV),(⟨S,fun _=>0,valT,noOw⟩ :: ⟨w,fun _=>0,valT,noOw⟩ :: oneL b K (L+1) :: LL:List LV)[i]?=some p->Bx w' p.b (C3 p.b))) (fun w' g'=>by
  have A5:=fun (i:Nat) (p:LV) (hp:(⟨S,fun _=>0,valT,noOw⟩ :: ⟨w,fun _=>0,valT,noOw⟩ :: oneL b K (L+1) :: LL:List LV)[i]?=some p)=>(F4.o.call HA.o).grown_any (j:=72) (i:=2) (t:=.sl ap_) (et:=87) rfl rfl rfl HC.o g' i p hp
  exact ⟨A5 2 _ rfl,A5⟩)
 obtain ⟨v0,v1,r0,r1,fr,Ac⟩:=KS.o wr hb;have Az:=F4.o.blt (i:=2) rfl;have Ay:=F4.o.blt (i:=1) rfl;have AA:=F4.o.blt (i:=0) rfl;clear hb;go_upto_region 11 with fail;go_region_law (refine br_ rfl (.tmp 54) (.tmp 59) 54 rfl 0 87 i0 _ 32 ap_ Y3 (L+1) underlying54 Aq As Ar Ap Au d_ A0 n0 c0 v_ Al.o (some (a_ wr)) 1 1 v_ HU.o (fun k hk=>lt_ (F4.o.lt k hk) HA.o.size) m_ o_ (Nat.zero_le _) ?_;intro A' c' w' o' g' l';have O':=q_ o';have G':=q_ g';have L':=q_ l';have BX:=HG.o w' g';have Aw:=BX.1.2.1 72 _ HC.o;have yf:=BX.1.2.2;have yv:=BX.2 0 _ rfl;have yr:=BX.2 1 _ rfl;clear o' g' l' Ac v0 v1 r0 r1 fr);all_goals
  obtain ⟨YY,f5,u5⟩:=(F4.o.call HA.o).append (i:=2) (j:=72) rfl (e:=ap_) rfl (et:=87) rfl HC.o O'.out (show n0+1<=L+1 by omega) G'.out L'.out;have AI:=f5.cell (i:=0) rfl (j:=0) (v:=.bool v.ref) (by rw [ad_ _ _ o_,A7.o];rfl);have AJ:=f5.cell (i:=0) rfl (j:=1) (v:=i_ v.n) (by rw [ad_ _ _ o_,A7.o];rfl);have AF:=f5.cell (i:=1) rfl (j:=0) (v:=.bool false) (by rw [ad_ _ _ o_,A3.o];rfl);have AG:=f5.cell (i:=1) rfl (j:=1) (v:=i_ 0) (by rw [ad_ _ _ o_,A3.o];rfl);have AH:=f5.fz (i:=1) rfl;have UA:=q_ ((U4.o.trans (.of_below HA.o)).trans u5);clear BX Aw yf yv yr;obtain ⟨f6,u6⟩:=f5.set (i:=1) (j:=0) (t:=.tru) (v:=.bool v.ref) rfl rfl rfl (.tru _);obtain ⟨f7,u7⟩:=f6.set (i:=1) (j:=1) (t:=.num) (v:=i_ v.n) rfl rfl rfl (.num _);go_wp2;refine retC results124 za_ underlying38 rfl (f7.info (i:=1) rfl isz_38) (f7.box (i:=1) rfl).whole rfl ?_;have hne:w≠b:=by omega
  have A1:b≠w:=by omega
  refine ⟨⟨v,?_⟩,YY,_,HS.o.go (LL':=LL) f7.tail.tail ((UA.o.trans u6).trans u7) (fun j hj=>?_) (fun hm=>?_),(UA.o.trans u6).trans u7,fun q hq A6=>?_,fun j hj=>?_⟩
  ·rw [upd_same,upd_same,ad_ _ _ hne,A3.o];rfl
  ·exact ue_
  ·intro kd p h1 h2 h3;rw [ad_ _ _ A1,ad_ _ _ A1,upd_same,gs_,if_neg o_,A2.o] at h1 h2 h3;exact hm kd p h1 h2 h3
  ·rw [ad_ _ _ o_,ad_ _ _ o_,ad_ _ _ hq,Aa.o q A6]
  exact ue_
theorem Dice.grown {w w':World} {d:Nat} {row:Option Nat} (h:Dice w d) (hg:w.grownBy w' row) (hr:∀ k,row=some k->d<k):Dice w' d:=by
 obtain ⟨hd,S,sn,sc,a,h0,h1,h2,h3,h4,h5⟩:=h;have hc:∀ q j,q<=d->w'.cell? (f_ q j)=w.cell? (f_ q j):=fun q j hq=>(gcell hg).1 q j o_ (fun e=>by have:=hr _ e.symm;omega)
 refine ⟨lt_ hd hg.size,S,sn,sc,a,(hc _ _ (l_)).trans h0,(hc _ _ (l_)).trans h1,((gcell hg).2 _ _ hd (fun e=>by have:=hr _ e.symm;omega)).trans h2,h3,h4,fun i hi=>?_⟩;obtain ⟨sb,so,x,e,h6,h7,h8,h9⟩:=h5 i hi;exact ⟨sb,so,x,e,h6,h7,h8,(hc _ _ o_).trans h9⟩
theorem Mk.grown {w w':World} {d b lp:Nat} {row:Option Nat} (h:Mk d b lp w) (hg:w.grownBy w' row) (hr:∀ k,row=some k->b<k):Mk d b lp w':=by
 obtain ⟨l,h1⟩:=h.c1;obtain ⟨f,h3⟩:=h.c3;have hn:=h.ne;have hc:∀ j,w'.cell? (f_ b j)=w.cell? (f_ b j):=fun j=>(gcell hg).1 b j h.lt (fun e=>by have:=hr _ e.symm;omega)
 exact ⟨h.dice.grown hg (fun k hk=>by have:=hr k hk;omega),hn,lt_ h.lt hg.size,(hc 0).trans h.c0,⟨l,(hc 1).trans h1⟩,(hc 2).trans h.c2,⟨f,(hc 3).trans h3⟩,fun j=>((gcell hg).2 b j h.lt (fun e=>by have:=hr _ e.symm;omega)).trans (h.fz j)⟩
theorem Md.grown {w w' w2:World} {d b lp:Nat} {row:Option Nat} (h:Md d b lp w w') (hg:w'.grownBy w2 row) (hr:∀ k,row=some k->w<=k) (hb:b<w):Md d b lp w w2:=⟨h.ok.grown hg (fun k hk=>by have:=hr k hk;omega),h.kp.grown hg (fun k hk=>.inr (hr k hk))⟩
def StOK (deep D:Nat):Prop:=∀ (d b lp:Nat) (X:NP) (w:World),lp<=100+deep->Mk d b lp w->(∀ q,Zm d b q->X q)->(∀ q,X q->q<w)->Calls prog 166 #[.pointer (some (a_ b)),i_ deep] w fun e w'=>RS X D e w'/\Md d b lp w w'
def RLO (X:NP) (base D q:Nat) (e:Ending) (w:World):Prop:=∃ (A:OA) (n c:Nat),e=.returned (.slice A n c)/\n<=q/\(n=0->A=none)/\Hid (OwP w base 212 pS (ah_ D) X 20 A n c)
def LsOK (deep D:Nat):Prop:=∀ (d b lp:Nat) (X:NP) (n:Nat) (w:World),n<=6->lp<=100+deep->Mk d b lp w->(∀ q,Zm d b q->X q)->(∀ q,X q->q<w)->Calls prog 113 #[.pointer (some (a_ b)),i_ deep,i_ n] w fun e w'=>RLO X w D (n+1) e w'/\Md d b lp w w'
theorem ei_stmt {D:Nat}:EI prog 192 212 (ah_ D) 128:=EI.of (z:=.agg #[i_ 0,.string ⟨#[]⟩,.string ⟨#[]⟩,i_ 0,i_ 0,.slice none 0 0,.slice none 0 0,.slice none 0 0]) underlying192 (by rw [by_];kernel_rfl) (by rw [by_];rfl) (by rw [by_];decide)
theorem OwP.kpz {w w':World} {base:Nat} {et:TypeId} {p:VL->Prop} {e:List CT} {X Z:NP} {K n c:Nat} {A:OA} (h:OwP w base et p e X K A n c) (hk:Kp Z w w') (hz:∀ k,Z k->X k) (hb:∀ k,Z k->k<base):OwP w' base et p e X K A n c:=by
 obtain ⟨xs,ho,hx⟩:=h;refine ⟨xs,own_kp ho hk (fun g hg A1=>by have:=(am_ ho hg).1;have:=hb g A1;omega),fun k A0=>?_⟩;obtain ⟨vs,h1,h2,h3⟩:=hx k A0;exact ⟨vs,h1.kept (hk.mono (fun k _ h=>.inl (hz k h))) (fun _ _ h=>h) (l_),h2,h3⟩
theorem OwP.blk {w:World} {base:Nat} {et:TypeId} {p:VL->Prop} {e:List CT} {X:NP} {K n c:Nat} {A:OA} (h:OwP w base et p e X K A n c) {g:Nat} (hg:(Value.slice A n c).ownBlock=some g):base<=g/\g<w:=by
 obtain ⟨xs,ho,_⟩:=h;exact am_ ho hg
theorem list_of (deep D:Nat) (hdeep:deep<=3) (hS:StOK deep D):LsOK deep D:=by
 intro d b lp X n w hn An hM hz Ab;have A2:∀ q:Nat,q<100->IntKind.i64.wrap ((q:Int)+1)=((q+1:Nat):Int):=fun q hq=>by rw [IntKind.wrap_i64];omega
 have c0:=hM.c0;have Aq:=hM.lt;have HM:=q_ hM;have HX:=q_ Ab;have HZ:=q_ hz;have HS:=q_ hS;have As:IntKind.i64.wrap ((n:Int)+1)=((n+1:Nat):Int):=A2 n o_;clear hM Ab hz hS A2;go_enter func113,ntmps113;go_upto_region 2 with fail;go_upto_region 3 with (go_at_call 26;refine (bn_ d (n+1) w HM.o.dice o_ o_).mono ?_;rintro e w1 ⟨r,hr,rfl,ht,_⟩);have Ae:=q_ (HM.o.thrown ht);have Ad:=q_ (ht.kp b);have Au:(w:Nat)<=w1:=ht.size;clear c0 ht;go_upto_block 0 with fail;go_loopw [7,8] (fun o iv wr=>∃ (A:OA) (m c:Nat),m<=r+1/\(m=0->A=none)/\o=.slice A m c/\iv=i_ ((r:Int) - (m:Int))/\Hid (OwP wr w 212 pS (ah_ D) X 20 A m c)/\Hid (Md d b lp w wr)) (fun _ iv _=>(intOf iv+1).toNat)
 case atStart=>exact ⟨none,0,0,o_,fun _=>rfl,rfl,zj_,q_ (OwP.nil _ _ _ _ _ _ _),q_ ⟨Ae.o,Ad.o⟩⟩
 obtain ⟨A,m,c,hm,Ac,rfl,rfl,HO,A1⟩:=hrel;obtain ⟨A0,c1⟩:=A1.o.ok.c1;have Ap:=A1.o.ok.lt;have Am:=A1.o.ok.fz 1;have Av:(w:Nat)<=wr:=A1.o.kp.size;by_cases hge:0<=(r:Int) - (m:Int)
 ·by_cases hl:0<A0
  ·have Ar:m<=r:=by omega
   have A3:=q_ (A1.o.set1 (wrap64 (A0 - 1)));have A4:=q_ (HO.o.kpz (Z:=Zm d b) ((Kp.refl (Zm d b) wr).setCell (p:=(f_ b 1)) (.inl (.inr rfl)) (i_ (wrap64 (A0 - 1)))) HZ.o (fun k hk=>HX.o k (HZ.o k hk)));obtain ⟨V,hV⟩:=ex_ (wr.setCell (f_ b 1) (i_ (wrap64 (A0 - 1))));rw [<-hV] at A3 A4;have Ao:(V:Nat)=wr:=by rw [hV];simp
   go_upto_region 6 with fail;rw [<-hV];clear hV c1 Am;go_wp2_with fail;refine (HS.o d b lp (Wi X (Value.slice A m c).ownBlock) V An A3.o.ok (fun q hq=>.inl (HZ.o q hq)) (fun q hq=>by rcases hq with hq | hq;(have:=HX.o q hq;omega);exact (A4.o.blk hq).2)).mono ?_;rintro e V1 ⟨⟨kd,s,f,n',op,E,em,ec,B,m1,c1,C,m2,c2,rfl,hv⟩,A6⟩;have A7:=q_ (A3.o.trans A6);have A9:=q_ (A4.o.kpz A6.kp HZ.o (fun k hk=>HX.o k (HZ.o k hk)));have Al:(w:Nat)<=V1:=A7.o.kp.size;have HV:=q_ hv.o;have BN:=q_ (Bx.new V1 (stL kd s f n' op E em ec B m1 c1 C m2 c2) 212);obtain ⟨U,hU⟩:=ex_ (V1.alloc (.cells (stL kd s f n' op E em ec B m1 c1 C m2 c2).toArray 212));rw [<-hU] at BN;have A5:Below V1 V1 U:=by rw [hU];exact (b_).alloc (l_) _
   have A8:=q_ (A7.o.below A5);have Aa:=q_ (A9.o.below A5);have Ah:=h_ (SlP U (Wi X (Value.slice A m c).ownBlock) 20 pS (ah_ D) (some (a_ V1)) 1 1) (SlP.one BN.o (fun h=>by rcases h with h | h;(have:=HX.o _ h;omega);(have:=(A9.o.blk h).2;omega)) d_ (HV.o.1.up (.of_below A5) (l_)) HV.o.2);have Ak:(w:Nat)<=U:=A8.o.kp.size;have Aj:=h_ (∀ k,X k->k<U) (fun k hk=>by have:=HX.o k hk;omega);have Ai:=h_ (U=V1.alloc (.cells #[i_ kd,.string s,.string f,i_ n',i_ op,.slice E em ec,.slice B m1 c1,.slice C m2 c2] 212)) hU;clear hv A6 hU;go_wp2_with (at_builtin;rw [<-Ai.o];refine do_ rfl _ _ rfl ei_stmt v_ Aa.o v_ Ah.o Aj.o m_ o_ Ak ?_;intro A' c' w6 o6 g6 l6);have Ag:=q_ o6;have Af:=q_ (A8.o.grown g6 (fun k hk=>(Aa.o.blk hk).1) HM.o.lt);clear o6 g6 l6;go_roundw
   case rel=>exact ⟨A',m+1,c',o_,fun h=>o_,rfl,zb_,Ag,Af⟩
   case measure=>exact me_
  go_wp2;go_ret;exact ⟨⟨A,m,c,rfl,o_,Ac,HO⟩,A1.o⟩
 go_wp2;go_ret;exact ⟨⟨A,m,c,rfl,o_,Ac,HO⟩,A1.o⟩
theorem infoVa:(prog.info? 38).map (fun i=>(i.zero,i.size,i.bytes))=some (some (.agg #[.bool false,i_ 0]),2,16):=by kernel_rfl
theorem OwT.vals_any {X Y:NP} {w:World} {base K n c:Nat} {et:TypeId} {A:OA} (h:OwT w base et valT X K A n c):OwT w base et valT Y K A n c:=by
 obtain ⟨xs,h1,h2⟩:=h;refine ⟨xs,h1,fun k j t hk hj=>?_⟩;obtain ⟨u,hu,hv⟩:=h2 k j t hk hj;refine ⟨u,hu,?_⟩
 match j,hj with
 | 0,hj=>injection hj with hj;subst hj;obtain ⟨b,rfl⟩:=hv.bool;exact .tru _
 | 1,hj=>injection hj with hj;subst hj;obtain ⟨b,rfl⟩:=hv.int;exact .num _
 | j+2,hj=>simp [valT] at hj
theorem write_t (X:NP) (K:Nat) (vs:VL) (y:Cl) (w:World) (ht:VTs w X K ae_ vs) (hK:K<=100000000000) (hX:∀ k,X k->k<w) :
  Calls prog 142 #[.agg vs.toArray,.agg #[i_ y.id,i_ y.field,.bool y.ref,i_ y.n]] w fun e w'=>RAk X (K+1) ae_ vs e w'/\Below w w w':=by
 obtain ⟨i0,Bp,Bs,Bt,Bu⟩:=info_parts infoOb;obtain ⟨i1,Bq,Bv,Bw,By⟩:=info_parts infoVa;obtain ⟨NA,nn,nc,Aw,Ax⟩:=ht.slc (j:=39) (e:=objT) rfl;obtain ⟨WA,wn,wc,AL,AN⟩:=ht.slc (j:=38) (e:=ap_) rfl;have AM:(prog.info? 65).map (·.size)=some vs.length:=by rw [ht.1];kernel_rfl
 have Br:vs.length=48:=ht.1;obtain ⟨W,hW,AI,Bo,B0,B1,B2⟩:=ei_ w vs 65 [i_ y.id,i_ y.field,.bool y.ref,i_ y.n] 87 zl1 65;have AS:∀ k,k<w.heap.size->¬X k->¬(X k\/(w.heap.size<=k/\k<w.heap.size+3)):=fun k hk h1 h2=>by rcases h2 with h2 | h2;exact h1 h2;omega
 have HT:=q_ (ht.kept (Y:=(fun k=>X k\/(w<=k/\k<w+3))) (Kp.of_below AI) AS (Nat.le_refl K));have HN:=q_ (Ax.kept (Y:=(fun k=>X k\/(w<=k/\k<w+3))) (Kp.of_below AI) AS (Nat.le_refl K));have Bk:=q_ (AN.kept (Y:=(fun k=>X k\/(w<=k/\k<w+3))) (Kp.of_below AI) AS (Nat.le_refl K));have HW:=q_ AI;have Ap:=q_ B0;have AF:=q_ B1;have Bc:=q_ B2;have Aa:=Ax.le;have Ac:=h_ (∀ k,(fun k=>X k\/(w<=k/\k<w+3)) k->k<W) (fun k hk=>by rcases hk with hk | hk;have:=hX k hk;omega;omega);have Bb:(w:Nat)+3=W:=by omega
 have Bd:=q_ Bb;have c0:=B1.2.1 0 _ rfl;have HF:=q_ (And.intro Aw AL);clear ht hX B0 B1 B2 AI Bo Ax AN AS Bb;go_enter func142,ntmps142;go_upto_region 1 with fail;rw [<-hW];clear hW;go_wp2_with (with_reducible refine ac_ rfl 65 (.tmp 2) rfl _ underlying65 rfl v_ Ap.o.whole AM ?_);refine (own_t (fun k=>X k\/(w<=k/\k<w+3)) K vs y.id W HT.o o_).mono ?_;rintro e Y ⟨⟨n1,BM,⟨A1,c1,AK⟩,⟨q,rfl,hq⟩⟩,hY⟩;rw [Aw] at AK;injection AK with AK;injection AK with hf1a hf1b hf1c;subst hf1b;clear hf1a hf1c Aw AL c0;have BD:=hY.size;have Ar:=q_ hY;have B9:=hq.o;clear hq;by_cases hneg:q<0
 ·clear B9;have BB:=(Ap.o.below hY).2.1 38 _ HF.o.2;have y0:=(AF.o.below hY).2.1 0 _ rfl;have y1:=(AF.o.below hY).2.1 1 _ rfl;have y2:=(AF.o.below hY).2.1 2 _ rfl;have y3:=(AF.o.below hY).2.1 3 _ rfl;clear hY;go_upto_region 3 with fail;go_wp2_with fail;refine (put_t (fun k=>X k\/(w<=k/\k<w+3)) K WA wn wc y Y (Bk.o.up (Kp.of_below Ar.o) (Nat.le_refl K)) hK (fun k hk=>by have:=Ac.o k hk;omega)).mono ?_;rintro e S ⟨⟨A2,n2,c2,rfl,Bn⟩,hS⟩;have AT:Below W W S:=Ar.o.trans (hS.mono Ar.o.size);have BA:=(Ap.o.below AT).2.1 38 _ HF.o.2;have s0:=(Ap.o.below AT).2.2;have AQ:=q_ AT;clear y0 y1 y2 y3 BB hS AT;go_upto_region 4 with fail;obtain ⟨ls,Al⟩:=ex_ (vs.set 38 (.slice A2 n2 c2));obtain ⟨U,hU⟩:=ex_ (S.setCell (f_ w 38) (.slice A2 n2 c2));have Am:=h_ (Bx U w ls) (by rw [hU,Al];exact (Ap.o.below AQ.o).set 38 _);have Aj:=h_ (Bx U (w+2) zl1) (by rw [hU];exact (Bc.o.below AQ.o).far ye_ _);have Au:=h_ (Kp (fun k=>X k\/(w<=k/\k<w+3)) S U) (by rw [hU];exact (Kp.refl _ S).setCell (p:=(f_ w 38)) (.inl (.inr ⟨zv_,xb_⟩)) _);have Bh:=h_ (Below w w U) (by rw [hU];exact (HW.o.trans (AQ.o.mono (by have:=Bd.o;omega))).setCell zv_ _);have AP:=h_ (VTs U (fun k=>X k\/(w<=k/\k<w+3)) (K+1) ae_ ls) (by rw [Al];exact ((HT.o.up ((show Kp (fun k=>X k\/(w<=k/\k<w+3)) W S from .of_below AQ.o).trans Au.o) (Nat.le_succ K)).set (j:=38) rfl (Bn.o.up Au.o (l_)).vt));rw [<-hU];have Ab:(prog.info? 65).map (·.size)=some ls.length:=by rw [Al];simpa using AM
  have A3:ls.length=48:=by rw [AP.o.1];rfl
  have Ah:=q_ Al;clear hU Al BA s0;go_wp2_with (first
   | (with_reducible refine ac_ rfl 65 (.tmp 2) rfl _ underlying65 rfl v_ Am.o.whole Ab ?_)
   | (with_reducible refine ab_ rfl 65 (.tmp 4) (.tmp 18) rfl ls yw_ v_ (Aj.o.there wj_) Ab AP.o.one ?_))
  refine retC results142 za_ underlying65 rfl Ab (cs:=ls) (Aj.o.all ls (by rw [A3];rfl)).whole rfl ?_;exact ⟨⟨ls,rfl,(AP.o.up (ag_ (w+2) ls 0 (Kp.refl _ U) (.inl (.inr ⟨o_,o_⟩))) (Nat.le_refl (K+1))).less (fun k _ h=>.inl h),q_ (by rw [Ah.o];exact KT.set vs 38 _ ⟨d_,d_⟩)⟩,(ag_ (w+2) ls 0 (show Kp (fun _=>False) w U from .of_below Bh.o) (.inr o_)).below (l_) (fun _ _ h=>h)⟩
 obtain ⟨k,hk,rfl⟩:∃ k:Nat,k<nn/\q=(k:Int):=by
  rcases B9 with h | h
  ·omega
  exact h
 clear B9;have BC:=(Ap.o.below hY).2.1 39 _ HF.o.1;have t0:=(Ap.o.below hY).2.2;clear hY;have HA:=h_ (SlT Y (Wi (fun k=>X k\/(w<=k/\k<w+3)) (Value.slice none 0 0).ownBlock) K objT NA nn nc) ((HN.o.up (Kp.of_below Ar.o) (Nat.le_refl K)).kept (Kp.refl _ _) (fun k _ h h2=>by rcases h2 with h2 | h2;exact h h2;cases h2) (Nat.le_refl K));go_upto_region 6 with (at_builtin;refine ao_ rfl _ _ 33 rfl Y 90 i0 _ 32 objT (fun k=>X k\/(w<=k/\k<w+3)) K underlying33 Bp Bs Bt Bu rfl d_ none 0 0 zc_ (OwT.nil _ _ _ _ _ _) NA nn nc zc_ HA.o (fun k hk=>by have:=Ac.o k hk;omega) m_ o_ (l_) ?_;intro A4 c4 w4 o4 g4 l4;rw [Nat.zero_add] at o4 l4 ⊢;have b4:Below Y Y w4:=aj_ g4 (l_) (fun k hk=>by cases hk);have O4:=q_ o4;have BX:=q_ (Ap.o.below (Ar.o.trans (b4.mono Ar.o.size)));have m0:=BX.o.2.1 39 _ HF.o.1;have m1:=BX.o.2.2;have B4:=q_ b4;clear o4 l4 g4 BC t0 b4);obtain ⟨U,hU⟩:=ex_ (w4.setCell (f_ w 39) (.slice A4 nn c4));obtain ⟨ls,Al⟩:=ex_ (vs.set 39 (.slice A4 nn c4));have Bb:=Bd.o;have AA:=h_ (OwT U Y 90 objT (fun k=>X k\/(w<=k/\k<w+3)) K A4 nn c4) (by rw [hU];exact O4.o.kept (dt_ _ _ _) (fun g hg=>by injection hg with hg;subst hg;exact ⟨.inr ⟨zv_,xb_⟩,xm_⟩));have Am:=h_ (Bx U w ls) (by rw [hU,Al];exact BX.o.set 39 _);have AR:=h_ (Below W W w4) (Ar.o.trans (B4.o.mono Ar.o.size));have AZ:=h_ (Below w w U) (by rw [hU];exact (HW.o.trans (AR.o.mono o_)).setCell zv_ _);have AX:=h_ (Bx U (w+1) _) (by rw [hU];exact (AF.o.below AR.o).far z1_ _);have AY:=h_ (Bx U (w+2) _) (by rw [hU];exact (Bc.o.below AR.o).far ye_ _);have Au:=h_ (Kp (fun k=>X k\/(w<=k/\k<w+3)) W U) (by rw [hU];exact (show Kp (fun k=>X k\/(w<=k/\k<w+3)) W w4 from .of_below AR.o).setCell (p:=(f_ w 39)) (.inl (.inr ⟨zv_,xb_⟩)) _);have AU:ls[39]?=some (.slice A4 nn c4):=by rw [Al];simp [Br]
 have AP:=h_ (VTs U (fun k=>X k\/(w<=k/\k<w+3)) K ae_ ls) (by rw [Al];exact ((HT.o.up Au.o (Nat.le_refl K)).set (j:=39) rfl (AA.o.slT (fun k hk=>by have:=Ac.o k hk;omega) Aa).vt));rw [<-hU];have Ay:=Am.o.2.1 39 _ AU;have BN:(Y:Nat)<=U:=by rw [hU];simpa using B4.o.size
 have Ah:=q_ Al;clear hU Al m0 m1;obtain ⟨xs,ho,An⟩:=AA.o;obtain ⟨g,Bl,BG,BH,BI⟩:=dp_ ho o_;clear ho An;have AB:W<=g:=by omega
 subst Bl;obtain ⟨g',o',he,BF,x,Ba,Bz,hx⟩:=(AA.o.slT (fun k hk=>by have:=Ac.o k hk;omega) Aa).obj_at hk;injection he with he;injection he with he1 Av;subst he1 Av;rw [Nat.zero_add] at hx;obtain ⟨x0,x1⟩:=hx U (b_);obtain ⟨V,hV,B3,Be,V0⟩:=af_ U [i_ x.id,.slice x.A x.n x.c] 90;have v0:=V0.2.1 0 _ rfl;have v1:=V0.2.1 1 _ rfl;have v2:=V0.2.2;have BL:(k:Int)<(nn:Int):=by omega
 go_upto_region 7 with fail;rw [<-hV];clear hV;have BO:(V:Nat)=U+1:=Be;have Bj:=q_ B3;have Bi:=q_ V0;have AV:=Ba.le;have Bg:=h_ (SlT V (Wi (fun _=>False) (Value.slice none 0 0).ownBlock) K valT x.A x.n x.c) ((Ba.up (Kp.of_below B3) (Nat.le_refl K)).kept (Kp.refl _ _) (fun k _ h h2=>by rcases h2 with h2 | h2;exact h2;cases h2) (Nat.le_refl K));clear hx Bz Ba B3 Be V0 x0 x1 Ay;go_upto_region 8 with (at_builtin;refine ao_ rfl _ _ 88 rfl V 38 i1 _ 16 valT (fun _=>False) K underlying88 Bq Bv Bw By rfl d_ none 0 0 zc_ (OwT.nil _ _ _ _ _ _) x.A x.n x.c zc_ Bg.o (fun _ h=>h.elim) m_ o_ (l_) ?_;intro A7 c7 w7 o7 g7 l7;rw [Nat.zero_add] at o7 l7 ⊢;have b7:Below V V w7:=aj_ g7 (l_) (fun k hk=>by cases hk);have O7:=q_ (o7.vals_any (Y:=fun k=>k<V));have AW:=q_ (Bi.o.below b7);have m0:=AW.o.2.1 1 _ rfl;have m1:=AW.o.2.2;have B7:=q_ b7;clear o7 l7 g7 b7 v0 v1 v2);obtain ⟨U2,AH⟩:=ex_ (w7.setCell (f_ U 1) (.slice A7 x.n c7));have Aq:=h_ (Below U U U2) (by rw [AH];exact (Bj.o.trans (B7.o.mono o_)).setCell (by show (U:Nat)<=U;omega) _);have As:=h_ (OwT U2 V 38 valT (fun k=>k<V) K A7 x.n c7) (by rw [AH];exact O7.o.kept (dt_ _ _ _) (fun g hg=>by injection hg with hg;subst hg;exact ⟨by show (U:Nat)<_;omega,by show (U:Nat)<_;omega⟩));have Az:=h_ (Bx U2 U [i_ x.id,.slice A7 x.n c7]) (by rw [AH];exact AW.o.set 1 _);rw [<-AH];have e0:=Az.o.2.1 1 _ rfl;have e1:=(AX.o.below Aq.o).2.1 1 _ rfl;have e2:=(AX.o.below Aq.o).2.1 2 _ rfl;have e3:=(AX.o.below Aq.o).2.1 3 _ rfl;clear AH m0 m1;by_cases h0:0<=y.field
 ·by_cases h1:y.field<x.n
  ·obtain ⟨j,hj⟩:∃ j:Nat,y.field=j:=⟨y.field.toNat,o_⟩;have B8:j<x.n:=by omega
   obtain ⟨xs,ho,An⟩:=As.o;obtain ⟨f,Bm,BE,AK,B6⟩:=dp_ ho o_;clear ho An;subst Bm;obtain ⟨f2,o2,Av,_,_,fq,B5,_⟩:=(As.o.slT (fun k h=>h) AV).el B8;injection Av with Av;injection Av with Av he4;subst Av he4;have q0:U2.cell? ⟨f,j*2,none⟩=some (fq 0):=by have:=B5 0 .tru rfl;simpa [valT] using this
   have q1:U2.cell? ⟨f,j*2+1,none⟩=some (fq 1):=by have:=B5 1 .num rfl;simpa [valT] using this
   have q2:=B6 (j*2);have q3:=B6 (j*2+1);have BK:(j:Int)<(x.n:Int):=by omega
   have BJ:(0:Int)<=(j:Int):=by omega
   rw [hj] at e1;clear B5 B6;go_upto_region 10 with fail;obtain ⟨U3,Ad⟩:=ex_ ((U2.setCell ⟨f,j*2,none⟩ (.bool y.ref)).setCell ⟨f,j*2+1,none⟩ (i_ y.n));have AC:=h_ (OwT U3 V 38 valT (fun k=>k<V) K (some (a_ f)) x.n c7) (by rw [Ad];exact (As.o.set B8 (j:=0) rfl (.tru _) _ rfl).set B8 (j:=1) rfl (.num _) _ rfl);have A0:=h_ (Below U U U3) (by rw [Ad];exact (Aq.o.setCell w2_ _).setCell w2_ _);have Ao:=h_ (Bx U3 U [i_ x.id,.slice (some (a_ f)) x.n c7]) (by rw [Ad];exact (Az.o.far (by show f≠U;omega) _).far (by show f≠U;omega) _);rw [<-Ad];clear Ad q0 q1 q2 q3;have Ae:=q_ (AA.o.below A0.o);have AO:(U:Nat)<=U3:=A0.o.size;obtain ⟨xs,ho,An⟩:=Ae.o;obtain ⟨g2,A5,_,Bf,A9⟩:=dp_ ho o_;injection A5 with A5;injection A5 with A5;subst A5;clear ho An;obtain ⟨g3,o3,A8,_,_,fn,Ak,_⟩:=(Ae.o.slT (fun k hk=>by have:=Ac.o k hk;omega) Aa).el hk;injection A8 with A8;injection A8 with A8 he4;subst A8 he4;have n0:U3.cell? ⟨g,k*2,none⟩=some (fn 0):=by have:=Ak 0 .num rfl;simpa [objT] using this
   have n1:U3.cell? ⟨g,k*2+1,none⟩=some (fn 1):=by have:=Ak 1 (.sl valT) rfl;simpa [objT] using this
   have n2:=A9 (k*2);have n3:=A9 (k*2+1);have s0:=Ao.o.2.1 0 _ rfl;have s1:=Ao.o.2.1 1 _ rfl;have Ay:=(Am.o.below A0.o).2.1 39 _ AU;clear Ak;go_upto_region 11 with fail;obtain ⟨U4,A6⟩:=ex_ ((U3.setCell ⟨g,k*2,none⟩ (i_ x.id)).setCell ⟨g,k*2+1,none⟩ (.slice (some (a_ f)) x.n c7));have Af:=h_ (Kp (fun q=>q=g) U3 U4) zs_;have AE:=h_ (SlT (U3.setCell ⟨g,k*2,none⟩ (i_ x.id)) (Wi (fun k=>X k\/(w<=k/\k<w+3)) (some g)) K valT (some (a_ f)) x.n c7) ((AC.o.slT (fun k h=>h) AV).kept ((Kp.refl _ U3).setCell (p:=⟨g,k*2,none⟩) (.inl (by show g<V;omega)) _) (fun q _ h h2=>h z4_) (Nat.le_refl K));have AD:=h_ (OwT U4 Y 90 objT (fun k=>X k\/(w<=k/\k<w+3)) K (some (a_ g)) nn c4) z6_;have AG:=h_ (Kp (fun k=>X k\/(w<=k/\k<w+3)) W U4) zr_;have Ai:=h_ (Bx U4 w ls) ((Am.o.below A0.o).kp Af.o (by show ¬w=g;omega));have Aj:=h_ (Bx U4 (w+2) zl1) ((AY.o.below A0.o).kp Af.o (by show ¬w+2=g;omega));have Ag:=h_ (VTs U4 (fun k=>X k\/(w<=k/\k<w+3)) K ae_ ls) zu_;rw [<-A6];have Ab:(prog.info? 65).map (·.size)=some ls.length:=by rw [Ah.o];simpa using AM
   have A3:ls.length=48:=by rw [Ag.o.1];rfl
   clear A6 n0 n1 n2 n3 s0 s1 Ay e0 e1 e2 e3;go_wp2_with (first
    | (with_reducible refine ac_ rfl 65 (.tmp 2) rfl _ underlying65 rfl v_ Ai.o.whole Ab ?_)
    | (with_reducible refine ab_ rfl 65 (.tmp 4) (.tmp 55) rfl ls yw_ v_ (Aj.o.there wj_) Ab Ag.o.one ?_))
   exact vd_
  go_upto_region 10 with fail;obtain ⟨U3,Ad⟩:=ex_ U2;rw [<-Ad] at As Aq Az e0 e1 e2 e3;rw [<-Ad];have AC:=As;have A0:=Aq;have Ao:=Az;clear Ad;have Ae:=q_ (AA.o.below A0.o);have AO:(U:Nat)<=U3:=A0.o.size;obtain ⟨xs,ho,An⟩:=Ae.o;obtain ⟨g2,A5,_,Bf,A9⟩:=dp_ ho o_;injection A5 with A5;injection A5 with A5;subst A5;clear ho An;obtain ⟨g3,o3,A8,_,_,fn,Ak,_⟩:=(Ae.o.slT (fun k hk=>by have:=Ac.o k hk;omega) Aa).el hk;injection A8 with A8;injection A8 with A8 he4;subst A8 he4;have n0:U3.cell? ⟨g,k*2,none⟩=some (fn 0):=by have:=Ak 0 .num rfl;simpa [objT] using this
  have n1:U3.cell? ⟨g,k*2+1,none⟩=some (fn 1):=by have:=Ak 1 (.sl valT) rfl;simpa [objT] using this
  have n2:=A9 (k*2);have n3:=A9 (k*2+1);have s0:=Ao.o.2.1 0 _ rfl;have s1:=Ao.o.2.1 1 _ rfl;have Ay:=(Am.o.below A0.o).2.1 39 _ AU;clear Ak;go_upto_region 11 with fail;obtain ⟨U4,A6⟩:=ex_ ((U3.setCell ⟨g,k*2,none⟩ (i_ x.id)).setCell ⟨g,k*2+1,none⟩ (.slice A7 x.n c7));have Af:=h_ (Kp (fun q=>q=g) U3 U4) zs_;have AE:=h_ (SlT (U3.setCell ⟨g,k*2,none⟩ (i_ x.id)) (Wi (fun k=>X k\/(w<=k/\k<w+3)) (some g)) K valT A7 x.n c7) ((AC.o.slT (fun k h=>h) AV).kept ((Kp.refl _ U3).setCell (p:=⟨g,k*2,none⟩) (.inl (by show g<V;omega)) _) (fun q _ h h2=>h z4_) (Nat.le_refl K));have AD:=h_ (OwT U4 Y 90 objT (fun k=>X k\/(w<=k/\k<w+3)) K (some (a_ g)) nn c4) z6_;have AG:=h_ (Kp (fun k=>X k\/(w<=k/\k<w+3)) W U4) zr_;have Ai:=h_ (Bx U4 w ls) ((Am.o.below A0.o).kp Af.o (by show ¬w=g;omega));have Aj:=h_ (Bx U4 (w+2) zl1) ((AY.o.below A0.o).kp Af.o (by show ¬w+2=g;omega));have Ag:=h_ (VTs U4 (fun k=>X k\/(w<=k/\k<w+3)) K ae_ ls) zu_;rw [<-A6];have Ab:(prog.info? 65).map (·.size)=some ls.length:=by rw [Ah.o];simpa using AM
  have A3:ls.length=48:=by rw [Ag.o.1];rfl
  clear A6 n0 n1 n2 n3 s0 s1 Ay e0 e1 e2 e3;go_wp2_with (first
   | (with_reducible refine ac_ rfl 65 (.tmp 2) rfl _ underlying65 rfl v_ Ai.o.whole Ab ?_)
   | (with_reducible refine ab_ rfl 65 (.tmp 4) (.tmp 55) rfl ls yw_ v_ (Aj.o.there wj_) Ab Ag.o.one ?_))
  exact vd_
 go_upto_region 10 with fail;obtain ⟨U3,Ad⟩:=ex_ U2;rw [<-Ad] at As Aq Az e0 e1 e2 e3;rw [<-Ad];have AC:=As;have A0:=Aq;have Ao:=Az;clear Ad;have Ae:=q_ (AA.o.below A0.o);have AO:(U:Nat)<=U3:=A0.o.size;obtain ⟨xs,ho,An⟩:=Ae.o;obtain ⟨g2,A5,_,Bf,A9⟩:=dp_ ho o_;injection A5 with A5;injection A5 with A5;subst A5;clear ho An;obtain ⟨g3,o3,A8,_,_,fn,Ak,_⟩:=(Ae.o.slT (fun k hk=>by have:=Ac.o k hk;omega) Aa).el hk;injection A8 with A8;injection A8 with A8 he4;subst A8 he4;have n0:U3.cell? ⟨g,k*2,none⟩=some (fn 0):=by have:=Ak 0 .num rfl;simpa [objT] using this
 have n1:U3.cell? ⟨g,k*2+1,none⟩=some (fn 1):=by have:=Ak 1 (.sl valT) rfl;simpa [objT] using this
 have n2:=A9 (k*2);have n3:=A9 (k*2+1);have s0:=Ao.o.2.1 0 _ rfl;have s1:=Ao.o.2.1 1 _ rfl;have Ay:=(Am.o.below A0.o).2.1 39 _ AU;clear Ak;go_upto_region 11 with fail;obtain ⟨U4,A6⟩:=ex_ ((U3.setCell ⟨g,k*2,none⟩ (i_ x.id)).setCell ⟨g,k*2+1,none⟩ (.slice A7 x.n c7));have Af:=h_ (Kp (fun q=>q=g) U3 U4) zs_;have AE:=h_ (SlT (U3.setCell ⟨g,k*2,none⟩ (i_ x.id)) (Wi (fun k=>X k\/(w<=k/\k<w+3)) (some g)) K valT A7 x.n c7) ((AC.o.slT (fun k h=>h) AV).kept ((Kp.refl _ U3).setCell (p:=⟨g,k*2,none⟩) (.inl (by show g<V;omega)) _) (fun q _ h h2=>h z4_) (Nat.le_refl K));have AD:=h_ (OwT U4 Y 90 objT (fun k=>X k\/(w<=k/\k<w+3)) K (some (a_ g)) nn c4) z6_;have AG:=h_ (Kp (fun k=>X k\/(w<=k/\k<w+3)) W U4) zr_;have Ai:=h_ (Bx U4 w ls) ((Am.o.below A0.o).kp Af.o (by show ¬w=g;omega));have Aj:=h_ (Bx U4 (w+2) zl1) ((AY.o.below A0.o).kp Af.o (by show ¬w+2=g;omega));have Ag:=h_ (VTs U4 (fun k=>X k\/(w<=k/\k<w+3)) K ae_ ls) zu_;rw [<-A6];have Ab:(prog.info? 65).map (·.size)=some ls.length:=by rw [Ah.o];simpa using AM
 have A3:ls.length=48:=by rw [Ag.o.1];rfl
 clear A6 n0 n1 n2 n3 s0 s1 Ay e0 e1 e2 e3;go_wp2_with (first
  | (with_reducible refine ac_ rfl 65 (.tmp 2) rfl _ underlying65 rfl v_ Ai.o.whole Ab ?_)
  | (with_reducible refine ab_ rfl 65 (.tmp 4) (.tmp 55) rfl ls yw_ v_ (Aj.o.there wj_) Ab Ag.o.one ?_))
 exact vd_
def lfL (n:Int):VL:=exL 1 n ⟨#[]⟩ 0 none 0 0
structure ForV (d b lp:Nat) (w0:World) (g eb:Nat) (s:ByteArray) (w:World):Prop where
 ok:Mk d b lp w
 kp:Kp (Zm d b) w0 w
 bl:b<w0
 gl:w0<=g
 el:w0<=eb
 ne:g≠eb
 bx:Bx w g (stL 5 s ⟨#[]⟩ 0 0 (some (a_ eb)) 2 2 none 0 0 none 0 0)
 be:∃ n1 n2,Bx w eb (lfL n1 ++ lfL n2)
theorem zm_ge {d b:Nat} {w0:World} (hd:d<b) (hb:b<w0) {g:Nat} (hg:w0<=g):¬Zm d b g:=fun h=>by rcases h with h | h <;> omega
theorem ForV.up {d b lp:Nat} {w0 w w':World} {g eb:Nat} {s:ByteArray} (h:ForV d b lp w0 g eb s w) (hm:Mk d b lp w') (hk:Kp (Zm d b) w w'):ForV d b lp w0 g eb s w':=by
 have hd:=hm.ne;obtain ⟨n1,n2,hb⟩:=h.be;exact ⟨hm,h.kp.trans hk,h.bl,h.gl,h.el,h.ne,h.bx.kp hk (zm_ge hd h.bl h.gl),n1,n2,hb.kp hk (zm_ge hd h.bl h.el)⟩
theorem ForV.ic {d b lp:Nat} {w0:World} {g eb:Nat} {s:ByteArray}:IC d b lp ⟨Zm d b,fun _=>True⟩ (ForV d b lp w0 g eb s) :=
 ⟨fun _ h=>h.ok,fun _ h=>h,fun _ h=>h.ok.zlt,fun _ _ h h1 h2=>h.up h1 h2,fun _ _ _ _ h=>h⟩
section
variable {X:XE}
def kLf (X:XE):SK X:=⟨fun _ u=>∃ n:Int,u=.agg (lfL n).toArray,fun _ _ _ _ _ h=>h⟩
def kLf2 (X:XE) (B:Nat):SK X:=⟨fun w u=>∃ eb n1 n2,u=.slice (some (a_ eb)) 2 2/\B<=eb/\¬X eb/\Bx w eb (lfL n1 ++ lfL n2),fun w w' u hk _ ⟨eb,n1,n2,e,hB,hX,hb⟩=>⟨eb,n1,n2,e,hB,hX,hb.kp hk hX⟩⟩
def kFor (X:XE) (B:Nat):SK X:=⟨fun w u=>∃ (s:ByteArray) (eb:Nat) (n1 n2:Int),u=.agg (stL 5 s ⟨#[]⟩ 0 0 (some (a_ eb)) 2 2 none 0 0 none 0 0).toArray/\s.size<=100/\B<=eb/\¬X eb/\Bx w eb (lfL n1 ++ lfL n2),fun w w' u hk _ ⟨s,eb,n1,n2,e,hs,hB,hX,hb⟩=>⟨s,eb,n1,n2,e,hs,hB,hX,hb.kp hk hX⟩⟩
def zst:VL:=[i_ 0,.string ⟨#[]⟩,.string ⟨#[]⟩,i_ 0,i_ 0,.slice none 0 0,.slice none 0 0,.slice none 0 0]
def kVarS (X:XE) (B:Nat):SK X:=⟨fun w u=>∃ g,u=.pointer (some (a_ g))/\B<=g/\¬X g/\Bx w g zst,fun w w' u hk _ ⟨g,e,hB,hX,hb⟩=>⟨g,e,hB,hX,hb.kp hk hX⟩⟩
end
section
variable {Q:Exit->Act->World->Prop} {X:XE} {Inv:World->Prop} {o:Oper} {a:Act} {w:World} {d b lp:Nat}
theorem rk_numl {x:Operand} {n:Int} (hC:IC d b lp X Inv) (ho:o.op=.call { callee:=.value (.func 118),args:=#[x],argTypes:=#[2] }) (hx:a.eval x=i_ n) (hI:Inv w):RnK prog Q X Inv (kLf X) o a w:=by
 have hf:a.eval (.func 118)=.func (.func 118) #[] #[]:=rfl;generalize hr:a.eval=r at hx hf;refine cm_ (f:=118) (args:=#[i_ n]) ys_ ((num_m n w).mono ?_);rintro e w' ⟨rfl,hb⟩;exact ⟨_,rfl,.of_below hb,hC.ex w w' hI (.of_below hb),hC.below hI hb,n,rfl⟩
theorem rk_lf2 {x y:Operand} {B:Nat} (hC:IC d b lp X Inv) (hB:B<=w) (ho:o.op=.buildSlice 207 2 #[(0,x),(1,y)]) (hx:(kLf X).p w (a.eval x)) (hy:(kLf X).p w (a.eval y)) (hI:Inv w):RnK prog Q X Inv (kLf2 X B) o a w:=by
 obtain ⟨n1,hx⟩:=hx;obtain ⟨n2,hy⟩:=hy;generalize hr:a.eval=r at hx hy;refine rk_to (v:=.slice (some (a_ w)) 2 2) (w':=w.alloc (.cells (lfL n1 ++ lfL n2).toArray 209)) (by rw [hr];simp [execOp,ho,hx,hy,go_sem,lfL,exL]) (.of_below (av_ w _ _)) (hC.ex w _ hI (.of_below (av_ w _ _))) ?_ (hC.below hI (av_ w _ _));exact ⟨_,n1,n2,rfl,hB,fun h=>by have:=hC.lt w hI _ h;omega,Bx.new w _ _⟩
theorem rk_for {x y:Operand} {B:Nat} (ho:o.op=.build 212 #[(0,.const (i_ 5)),(1,x),(5,y)]) (hx:(kStr X).p w (a.eval x)) (hy:(kLf2 X B).p w (a.eval y)) (hI:Inv w):RnK prog Q X Inv (kFor X B) o a w:=by
 obtain ⟨s,hx,hs⟩:=hx;obtain ⟨eb,n1,n2,hy,h1,h2,h3⟩:=hy;have e0:a.eval (.const (i_ 5))=i_ 5:=rfl;generalize hr:a.eval=r at hx hy e0;exact bq_ (v:=.agg (stL 5 s ⟨#[]⟩ 0 0 (some (a_ eb)) 2 2 none 0 0 none 0 0).toArray) (by rw [hr];simp [execOp,ho,hx,hy,e0,go_sem,stL]) ⟨s,eb,n1,n2,rfl,hs,h1,h2,h3⟩ hI
theorem rk_vars {B:Nat} (hC:IC d b lp X Inv) (hB:B<=w) (ho:o.op=.alloc 212) (hI:Inv w):RnK prog Q X Inv (kVarS X B) o a w:=by
 refine rk_to (v:=.pointer (some (a_ w))) (w':=w.alloc (.cells zst.toArray 212)) (by simp [execOp,ho,go_sem,zst]) (.of_below (av_ w _ _)) (hC.ex w _ hI (.of_below (av_ w _ _))) ?_ (hC.below hI (av_ w _ _));exact ⟨_,rfl,hB,fun h=>by have:=hC.lt w hI _ h;omega,Bx.new w _ _⟩
theorem rk_fld8 {x:Operand} {g f:Nat} (hf:f<8) (ho:o.op=.fieldAddr 212 x f) (hx:a.eval x=.pointer (some (a_ g))) (hI:Inv w):RnK prog Q X Inv (kV X (.pointer (some (f_ g f)))) o a w:=by
 generalize hr:a.eval=r at hx;refine bq_ (v:=.pointer (some (f_ g f))) ?_ rfl hI;rw [hr]
 match f,hf with
 | 0,_=>simp [execOp,ho,hx,go_sem]
 | 1,_=>simp [execOp,ho,hx,go_sem]
 | 2,_=>simp [execOp,ho,hx,go_sem]
 | 3,_=>simp [execOp,ho,hx,go_sem]
 | 4,_=>simp [execOp,ho,hx,go_sem]
 | 5,_=>simp [execOp,ho,hx,go_sem]
 | 6,_=>simp [execOp,ho,hx,go_sem]
 | 7,_=>simp [execOp,ho,hx,go_sem]
theorem rk_ix1 {x:Operand} {eb:Nat} (ho:o.op=.indexAddr 207 x (.const (i_ 1))) (hx:a.eval x=.slice (some (a_ eb)) 2 2) (hI:Inv w):RnK prog Q X Inv (kV X (.pointer (some (f_ eb 5)))) o a w:=by
 have e0:a.eval (.const (i_ 1))=i_ 1:=rfl;generalize hr:a.eval=r at hx e0;exact bq_ (v:=.pointer (some (f_ eb 5))) yt_ rfl hI
theorem kNat_le {n m:Nat} (h:n<=m) {v:Value} (hv:(kNat X n).p w v):(kNat X m).p w v:=by
 obtain ⟨r,hr,e⟩:=hv;exact ⟨r,o_,e⟩
end
end Go.Proofs.YtfolidlmgfhkiaaGreat
namespace Go.Proofs.YtfolidlmgfhkiaaGreat
open Go.RowKit
section
variable {P:Program} {w:World} {t ty et:TypeId} {bytes:Nat} {p:VL->Prop} {e:List CT} {X Y:NP} {K base n c d:Nat} {A:OA} {ad:Addr}
theorem OwP.butlast (h:OwP w base et p e X K A (n+1) c) (hA:A≠none):OwP w base et p e X K A n c:=by
 obtain ⟨xs,ho,hx⟩:=h;refine ⟨xs.take (n*e.length),⟨?_,?_⟩,fun k hk=>?_⟩
 ·rw [List.length_take,ho.1];have:n*e.length<=(n+1)*e.length:=Nat.mul_le_mul_right _ (Nat.le_succ n);omega
 ·rcases ho.2 with ⟨h',_⟩ | ⟨g,cap,cur,hv,hg,hr,hn,hm,hs,ht⟩
  ·injection h' with h1 h2 h3;exact absurd h1 hA
  injection hv with h1 _ h3;subst h1 h3;refine .inr ⟨g,_,cur,rfl,hg,hr,o_,hm,hs,?_⟩;rw [<-ht,List.take_take,Nat.min_eq_left (Nat.mul_le_mul_right _ (Nat.le_succ n))]
 obtain ⟨vs,h1,h2,h3⟩:=hx k o_;have A0:(Value.slice A (n+1) c).ownBlock=(Value.slice A n c).ownBlock:=by cases A <;> rfl
 rw [A0] at h1;refine ⟨vs,h1,fun j u hu=>?_,h3⟩;rw [List.getElem?_take,if_pos]
 ·exact h2 j u hu
 have hj:j<e.length:=by rw [<-h1.1];exact (e_ hu).1
 exact th_
theorem app1 (ty:TypeId) (E:EI P t et e bytes) (hown:OwP w base et p e X K A n c) (hsrc:SlP w (Wi X (Value.slice A n c).ownBlock) K p e (some ad) 1 d) (hX:∀ k,X k->k<w) (h63:n+1<=maxLen) (hbytes:(n+1)*bytes<=140737488355328) (hbase:base<=w) :
  ∃ A' c' w',(Builtin.append_ #[t,t] ty #[.slice A n c,.slice (some ad) 1 d]).run P w=.ok (.slice A' (n+1) c') w'/\OwP w' base et p e X K A' (n+1) c'/\w.grownBy w' (Value.slice A n c).ownBlock/\OwP w' base et p e X K A n c/\((A'=A/\A≠none/\c'=c)\/(Below w w w'/\∀ g,(Value.slice A' (n+1) c').ownBlock=some g->g=w)):=by
 obtain ⟨i,z,hi,hz,A0,A5,A6⟩:=E.hi;have hO:=hown;obtain ⟨xs,h1,h2⟩:=hown;obtain ⟨news,n1,n2,n3,n4,n5⟩:=hsrc.news;obtain ⟨A',c',w',hr,g1,g2,g3⟩:=cz_ (P:=P) w base t ty et i z e.length bytes E.ht hi hz A0 A5 A6 E.hsz _ n xs h1 (some ad) 1 d news n2 n1 n3 n4 h63 hbytes hbase;have o6:=own_appendP ⟨h1,h2⟩ n1 n5 hX g1 g2 g3;refine ⟨A',c',w',hr,o6,g2,?_⟩;rcases h1.2 with ⟨hA,hn⟩ | ⟨g,cap,cur,hv,hbg,hg,hnc,hcm,hcs,htake⟩
 ·injection hA with q1 q2 q3;subst q1 q2 q3;refine ⟨OwP.nil _ _ _ _ _ _ _,.inr ⟨aj_ g2 (l_) (fun k hk=>by cases hk),fun g hg=>?_⟩⟩;rcases g3 g hg with h | h
  ·cases h
  exact h
 injection hv with q1 _ q3;subst q1 q3;by_cases hroom:n+1<=c
 ·have A3:n*i.size+news.length<=cur.size:=by rw [n1,A0,hcs,<-Nat.add_mul];exact Nat.mul_le_mul_right _ hroom
  have A4:=run_append_room (P:=P) w t ty et i E.ht hi g n c cur hg ad 1 d news (by rw [A0];exact n1) (n3 ad rfl) n4 hroom A3;rw [A4] at hr;injection hr with e1 e2;injection e1 with e1 e3 e4;subst e1 e4;exact ⟨o6.butlast x_,.inl ⟨rfl,x_,rfl⟩⟩
 have A1:∀ j u,xs[j]?=some u->w.cell? (((a_ g):Addr).add j)=some u:=h1.cells (g:=g) rfl;have A4:=run_append_grow (P:=P) w t ty et i z E.ht hi hz (a_ g) n c xs (by rw [A0];exact h1.1) A1 ad 1 d news (by rw [A0];exact n1) (n3 ad rfl) o_ (by unfold maxLen at h63;omega) (by rw [A5];exact growslice_fits o_ hbytes);rw [A4] at hr;injection hr with e1 e2;injection e1 with e1 e3 e4;have hb:Below w w w':=by rw [<-e2];exact (Below.drew (b_)).alloc (l_) _
 refine ⟨hO.below hb,.inr ⟨hb,fun g' A2=>?_⟩⟩;rw [<-e1] at A2;injection A2 with A2;exact A2.symm
theorem OwP.re (h:OwP w base et p e X K A n c) {base':Nat} (hb:∀ g,(Value.slice A n c).ownBlock=some g->base'<=g) (hY:∀ k,k<w.heap.size->Y k->X k\/(Value.slice A n c).ownBlock=some k):OwP w base' et p e Y K A n c:=by
 obtain ⟨xs,ho,hx⟩:=h;refine ⟨xs,⟨ho.1,?_⟩,fun k hk=>?_⟩
 ·rcases ho.2 with h' | ⟨g,cap,cur,hv,hg,hr⟩
  ·exact .inl h'
  injection hv with h1 _ h3;subst h1 h3;exact .inr ⟨g,_,cur,rfl,hb g rfl,hr⟩
 obtain ⟨vs,h1,h2,h3⟩:=hx k hk;exact ⟨vs,h1.less (fun q hq hy=>by rcases hy with hy | hy;(rcases hY q hq hy with h | h;exact .inl h;exact .inr h);exact .inr hy),h2,h3⟩
end
end Go.Proofs.YtfolidlmgfhkiaaGreat
namespace Go.Proofs.YtfolidlmgfhkiaaGreat
open Go.RowKit Go.Proofs.Tryz
structure RwF (d b:Nat) (X4 X2:NP) (base g:Nat) (B:OA) (m c:Nat) (W:World):Prop where
 zx:∀ k,Zm d b k->X2 k
 x2:∀ k,X2 k->X4 k
 x4:∀ k,X4 k->X2 k\/(Value.slice B m c).ownBlock=some k
 ow:∀ k,(Value.slice B m c).ownBlock=some k->X4 k
 lo:∀ k,X2 k->k<base
 gn:(Value.slice B m c).ownBlock≠some g
 gz:b<g
 Wb:W<=base
 m4:m<=18
structure InvW (d b lp:Nat) (X4:NP) (W:World) (g:Nat) (CS:VL) (base D:Nat) (B:OA) (m c:Nat) (w:World):Prop where
 ok:Mk d b lp w
 kp:Kp (Zm d b) W w
 lt:∀ k,X4 k->k<w
 bx:Bx w g CS
 ow:OwP w base 212 pS (ah_ D) X4 20 B m c
 bs:base<=w
def EvW (X2:NP) (D:Nat) (B:OA) (m c:Nat) (w:World):Prop:=SlP w X2 20 pS (ah_ D) B (m+1) c
section
variable {d b lp:Nat} {X4 X2:NP} {base g:Nat} {B:OA} {m c D:Nat} {W:World} {CS:VL}
theorem InvW.ic (h:RwF d b X4 X2 base g B m c W):IC d b lp ⟨X4,EvW X2 D B m c⟩ (InvW d b lp X4 W g CS base D B m c) :=
 ⟨fun _ h=>h.ok,fun k hk=>h.x2 k (h.zx k hk),fun _ h=>h.lt,fun w w' hI hm hk=>⟨hm,hI.kp.trans hk,fun k A0=>lt_ (hI.lt k A0) hk.size,hI.bx.kp hk (fun hz=>by have:=hm.ne;have:=h.gz;rcases hz with e | e <;> omega),hI.ow.kpz hk (fun k hk=>h.x2 k (h.zx k hk)) (fun k hk=>h.lo k (h.zx k hk)),Nat.le_trans hI.bs hk.size⟩,fun w w' _ hk he=>SlP.kept he (hk.mono (fun k _ hk=>h.zx k hk)) (fun _ _ h=>h) (l_)⟩
def AppV (X4 X2:NP) (D:Nat) (B:OA) (m c:Nat) (w:World) (A':OA) (n' c':Nat):Prop:=n'<=19/\(SlP w X4 20 pS (ah_ D) A' n' c'\/(A'=B/\n'=m+1/\c'=c/\EvW X2 D B m c w))
theorem AppV.st {w w':World} {A':OA} {n' c':Nat} (h:AppV X4 X2 D B m c w A' n' c') (hk:Kp X4 w w') (he:EvW X2 D B m c w->EvW X2 D B m c w'):AppV X4 X2 D B m c w' A' n' c':=by
 refine ⟨h.1,?_⟩;rcases h.2 with h | ⟨h1,h2,h3,h4⟩
 ·exact .inl (h.kept hk (fun _ _ h=>h) (l_))
 exact .inr ⟨h1,h2,h3,he h4⟩
theorem AppV.slP {w:World} {A':OA} {n' c':Nat} (h:AppV X4 X2 D B m c w A' n' c') (hx:∀ k,X2 k->X4 k):SlP w X2 20 pS (ah_ D) A' n' c':=by
 rcases h.2 with h | ⟨rfl,rfl,rfl,h⟩
 ·exact h.less (fun k _ hk=>hx k hk)
 exact h
def kApp (X4 X2:NP) (D:Nat) (B:OA) (m c:Nat):SK ⟨X4,EvW X2 D B m c⟩:=⟨fun w u=>∃ A' n' c',u=.slice A' n' c'/\AppV X4 X2 D B m c w A' n' c',fun w w' u hk he ⟨A',n',c',e,h⟩=>⟨A',n',c',e,h.st hk he⟩⟩
def kWhile (X4 X2:NP) (D:Nat) (B:OA) (m c:Nat):SK ⟨X4,EvW X2 D B m c⟩:=⟨fun w u=>∃ A' n' c' E1 ec,u=.agg (stL 6 ⟨#[]⟩ ⟨#[]⟩ 0 0 E1 1 ec A' n' c' none 0 0).toArray/\SlP w X4 20 pE (ay_ dE) E1 1 ec/\AppV X4 X2 D B m c w A' n' c',fun w w' u hk he ⟨A',n',c',E1,ec,e,h1,h⟩=>⟨A',n',c',E1,ec,e,h1.kept hk (fun _ _ h=>h) (l_),h.st hk he⟩⟩
def kSt1 (X:XE) (D:Nat):SK X:=⟨fun w u=>∃ nb,u=.slice (some (a_ nb)) 1 1/\SlP w X 20 pS (ah_ D) (some (a_ nb)) 1 1,fun w w' u hk _ ⟨nb,e,h⟩=>⟨nb,e,h.kept hk (fun _ _ h=>h) (l_)⟩⟩
end
section
variable {Q:Exit->Act->World->Prop} {X:XE} {Inv:World->Prop} {o:Oper} {a:Act} {w:World} {d b lp:Nat}
theorem rk_st1 {x:Operand} {e:Nat} (hC:IC d b lp X Inv) (ho:o.op=.buildSlice 192 1 #[(0,x)]) (hx:(kSt X e).p w (a.eval x)) (hI:Inv w):RnK prog Q X Inv (kSt1 X e) o a w:=by
 obtain ⟨kd,s,f,n,op,A,m,c,B,m1,c1,C,m2,c2,hx,h1⟩:=hx;generalize hr:a.eval=r at hx;refine rk_to (v:=.slice (some (a_ w)) 1 1) (w':=w.alloc (.cells (stL kd s f n op A m c B m1 c1 C m2 c2).toArray 212)) xr_ (.of_below (av_ w _ _)) (hC.ex w _ hI (.of_below (av_ w _ _))) ?_ (hC.below hI (av_ w _ _));exact ⟨_,rfl,SlP.one (Bx.new w _ _) (fun h=>by have:=hC.lt w hI _ h;omega) d_ (h1.1.up (.of_below (av_ w _ _)) (l_)) h1.2⟩
end
section
variable {Q:Exit->Act->World->Prop} {o:Oper} {a:Act} {w:World} {d b lp:Nat} {X4 X2:NP} {base g:Nat} {B:OA} {m c D:Nat} {W:World} {CS:VL}
theorem rk_app {x y:Operand} (h:RwF d b X4 X2 base g B m c W) (ho:o.op=.call { callee:=.builtin .append,args:=#[x,y],argTypes:=#[192,192] }) (hx:a.eval x=.slice B m c) (hy:(kSt1 ⟨X4,EvW X2 D B m c⟩ D).p w (a.eval y)) (hI:InvW d b lp X4 W g CS base D B m c w):RnK prog Q ⟨X4,EvW X2 D B m c⟩ (InvW d b lp X4 W g CS base D B m c) (kApp X4 X2 D B m c) o a w:=fun K hK=>by
 obtain ⟨nb,hy,hs⟩:=hy;have A3:SlP w (Wi X4 (Value.slice B m c).ownBlock) 20 pS (ah_ D) (some (a_ nb)) 1 1:=hs.less (fun k _ hk=>by rcases hk with hk | hk;exact hk;exact h.ow k hk);have A5:=h.m4;obtain ⟨A',c',w',hr,o6,gb,oo,A0⟩:=app1 o.type ei_stmt hI.ow A3 hI.lt m_ o_ hI.bs;have A1:∀ k,(Value.slice B m c).ownBlock=some k->base<=k/\k<w:=fun k hk=>hI.ow.blk hk
 have A2:Kp X4 w w':=(Kp.refl _ w).grown gb (fun k hk=>.inl (h.ow k hk));unfold Oper.wp execOp;simp only [ho,resolve,invoke,builtin,Sem.run_bind,Sem.run_pure,Result.andThen_ok,List.map_toArray,List.map_cons,List.map_nil,hx,hy,hr];have A4:b<W\/True:=.inr trivial;refine hK _ _ A2 (fun he=>?_) ⟨hI.ok.grown gb (fun k hk=>by have:=A1 k hk;have:=h.lo b (h.zx b (.inr rfl));omega),hI.kp.grown gb (fun k hk=>.inr (by have:=A1 k hk;have:=h.Wb;omega)),fun k hk=>lt_ (hI.lt k hk) gb.size,?_,oo,Nat.le_trans hI.bs gb.size⟩ ⟨A',m+1,c',rfl,o_,?_⟩
 ·rcases A0 with ⟨rfl,hB,rfl⟩ | ⟨hb,_⟩
  ·exact (o6.re (base':=base) (Y:=X2) (fun q hq=>(o6.blk hq).1) (fun k _ hk=>.inl (h.x2 k hk))).slP (fun k hk=>h.lo k hk) o_
  exact SlP.kept he (.of_below hb) (fun _ _ h=>h) (l_)
 ·exact hI.bx.kp (X:=fun k=>(Value.slice B m c).ownBlock=some k) ((Kp.refl _ w).grown gb (fun k hk=>.inl hk)) h.gn
 rcases A0 with ⟨rfl,hB,rfl⟩ | ⟨hb,hn⟩
 ·exact .inr ⟨rfl,rfl,rfl,(o6.re (base':=base) (Y:=X2) (fun q hq=>(o6.blk hq).1) (fun k _ hk=>.inl (h.x2 k hk))).slP (fun k hk=>h.lo k hk) o_⟩
 exact .inl ((o6.re (base':=w) (Y:=X4) (fun q hq=>by rw [hn q hq];exact l_) (fun k _ hk=>.inl hk)).slP hI.lt o_)
theorem rk_while {x y:Operand} {Inv:World->Prop} (ho:o.op=.build 212 #[(0,.const (i_ 6)),(5,x),(6,y)]) (hx:(kExs ⟨X4,EvW X2 D B m c⟩ dE 1).p w (a.eval x)) (hy:(kApp X4 X2 D B m c).p w (a.eval y)) (hI:Inv w):RnK prog Q ⟨X4,EvW X2 D B m c⟩ Inv (kWhile X4 X2 D B m c) o a w:=by
 obtain ⟨E1,ec,hx,h1⟩:=hx;obtain ⟨A',n',c',hy,h2⟩:=hy;have e0:a.eval (.const (i_ 6))=i_ 6:=rfl;generalize hr:a.eval=r at hx hy e0;exact bq_ (v:=.agg (stL 6 ⟨#[]⟩ ⟨#[]⟩ 0 0 E1 1 ec A' n' c' none 0 0).toArray) (by rw [hr];simp [execOp,ho,hx,hy,e0,go_sem,stL]) ⟨A',n',c',E1,ec,rfl,h1,h2⟩ hI
end
structure FinV (d b lp:Nat) (X2:NP) (W:World) (g D:Nat) (w:World):Prop where
 ok:Mk d b lp w
 kp:Kp (Zm d b) W w
 bx:∃ cs,Bx w g cs/\VTs w X2 20 (ah_ (D+1)) cs/\pS cs
theorem FinV.up {d b lp:Nat} {X2:NP} {W:World} {g D:Nat} {w w':World} (h:FinV d b lp X2 W g D w) (hm:Mk d b lp w') (hk:Kp (Zm d b) w w') (hz:∀ k,Zm d b k->X2 k) (hg:b<g):FinV d b lp X2 W g D w':=by
 obtain ⟨cs,h1,h2,h3⟩:=h.bx;exact ⟨hm,h.kp.trans hk,cs,h1.kp hk (fun hz=>by have:=hm.ne;rcases hz with e | e <;> omega),h2.up (hk.mono (fun k _ hk=>hz k hk)) (l_),h3⟩
theorem Mk.setsO {d b lp rb:Nat} {w:World} (h:Mk d b lp w) (hr:b<rb) (o:Nat) (vs:VL):Mk d b lp (w.setCells rb o vs):=by
 have hk:Kp (fun k=>k=rb) w (w.setCells rb o vs):=ag_ _ _ _ (Kp.refl _ _) (.inl rfl);obtain ⟨l,h1⟩:=h.c1;obtain ⟨f,h3⟩:=h.c3;have hd:=h.ne;have hc:∀ q j,q<=b->(w.setCells rb o vs).cell? (f_ q j)=w.cell? (f_ q j):=fun q j hq=>hk.cell (by have:=h.lt;omega) o_
 exact vl_
theorem ForV.put {d b lp:Nat} {w0 w:World} {g eb:Nat} {s:ByteArray} (h:ForV d b lp w0 g eb s w) (n:Int):ForV d b lp w0 g eb s (w.setCells eb 5 (lfL n)):=by
 obtain ⟨n1,n2,hb⟩:=h.be;have:=h.bl;have:=h.el;refine ⟨h.ok.setsO o_ 5 _,ag_ _ _ _ h.kp (.inr h.el),h.bl,h.gl,h.el,h.ne,h.bx.others (Ne.symm h.ne) _,n1,n,?_⟩;have h2:=hb.put 5 (lfL n) (Nat.le_refl 10);exact h2
theorem for_vts {w:World} {X2:NP} {eb:Nat} {i1 i2:Int} {s:ByteArray} {B:OA} {m c D:Nat} (hb:Bx w eb (lfL i1 ++ lfL i2)) (he:¬X2 eb) (hs:s.size<=100) (hB:SlP w X2 20 pS (ah_ D) B m c) :
  VTs w X2 20 (ah_ (D+1)) (stL 5 s ⟨#[]⟩ 0 0 (some (a_ eb)) 2 2 B m c none 0 0)/\pS (stL 5 s ⟨#[]⟩ 0 0 (some (a_ eb)) 2 2 B m c none 0 0):=by
 have p:∀ i,pE (lfL i):=fun i=>pE_ex x_ x_ d_
 have v:∀ i,VTs w X2 20 (ay_ dE) (lfL i):=fun i=>exprT_le (Nat.zero_le _) (vts_ex0 _ _ _ _) (p i)
 exact ⟨vts_st (SlP.two hb he d_ (v _) (p _) (v _) (p _)) hB (SlP.nil _ _ _ _ _),pS_st (fun _=>l_) x_ x_ hs d_⟩
theorem Get_t (X:NP) (K:Nat) (A:OA) (n c:Nat) (id:Int) (w:World) (h:SlT w X K objT A n c) (hK:K<=8796093021952) :
  Calls prog 133 #[.agg #[.slice A n c],i_ id] w fun e w'=>(∃ (i:Int) (A':OA) (n' c':Nat) (b:Bool),e=.returned (.tuple #[.agg #[i_ i,.slice A' n' c'],.bool b]))/\Below w w w':=by
 obtain ⟨l,hl,_⟩:=h.hp hK;refine (refget_any A n c l id w hl (by have:=h.le;omega)).mono ?_;rintro e w' ⟨A',n',c',rfl,_,_,_,hb⟩;exact ⟨⟨_,_,_,_,_,rfl⟩,hb⟩
theorem Mv.upd81 {l:List In} {pc:Int} {vs us:VL} {bk nb:Bool} (h81:vs[81]?=some (.bool bk)) (hm:Mv l pc vs) (e38:us[38]?=vs[38]?) (e39:us[39]?=vs[39]?) (e81:us[81]?=some (.bool nb)) (hb:bk=true->nb=true):Mv l pc us:=fun kd p h1 h2 h3=>by
 rw [e38] at h1;rw [e39] at h2;rw [e81] at h3;injection h3 with h3;injection h3 with h3;subst h3;cases bk
 ·exact hm kd p h1 h2 h81
 cases hb rfl
theorem OneS.set81 {X Z Y:NP} {w0 w:World} {LL:List LV} {b K L:Nat} {l:List In} {pc:Int} {C:Nat->VL} {bk:Bool} (h:OneS X Z w0 LL b K L l pc Y C w) (h81:(C b)[81]?=some (.bool bk)) (nb:Bool) (hb:bk=true->nb=true):Ms X Z w0 LL b K L l pc Y C w (w.setCell (f_ b 81) (.bool nb)) (fun j=>j≠81):=by
 obtain ⟨f,u⟩:=h.fr.set (i:=0) (j:=81) (t:=.tru) (v:=.bool nb) rfl rfl rfl (.tru _);refine ⟨Y,_,h.go f u (fun j hj=>?_) (fun hm=>hm.upd81 h81 ?_ ?_ ?_ hb),u,fun q hq _=>ad_ _ _ hq,fun j hj=>?_⟩
 ·rw [upd_same,gs_,if_neg o_]
 ·rw [upd_same,gs_,if_neg o_]
 ·rw [upd_same,gs_,if_neg o_]
 ·rw [upd_same,gs_,if_pos rfl,if_pos (by have:=h.fr.len (i:=0) rfl;rw [this];decide)]
 rw [upd_same,gs_,if_neg (fun e=>hj e.symm)]
theorem Ms.after {X Z Y:NP} {w0 w w1 w':World} {LL:List LV} {b K L:Nat} {l:List In} {pc:Int} {C:Nat->VL} {J:NP} (hb:Below w w w1) (h:Ms X Z w0 LL b K L l pc Y C w1 w' J):Ms X Z w0 LL b K L l pc Y C w w' J:=by
 obtain ⟨Y',C',h1,h2,h3,h4⟩:=h;exact ⟨Y',C',h1,(Up.of_below hb).trans h2,fun q hq A0=>h3 q hq (lt_ A0 hb.size),h4⟩
theorem Ms.trans {X Z Y Y1:NP} {w0 w w1 w':World} {LL:List LV} {b K L:Nat} {l:List In} {pc:Int} {C C1:Nat->VL} {J:NP} (hu:Up w Y w1 Y1) (hq:∀ q,q≠b->q<w->C1 q=C q) (hj:∀ j,J j->(C1 b)[j]?=(C b)[j]?) (h:Ms X Z w0 LL b K L l pc Y1 C1 w1 w' J):Ms X Z w0 LL b K L l pc Y C w w' J:=by
 obtain ⟨Y',C',h1,h2,h3,h4⟩:=h;exact ⟨Y',C',h1,hu.trans h2,fun q A0 A1=>(h3 q A0 (lt_ A1 hu.kp.size)).trans (hq q A0 A1),fun j h=>(h4 j h).trans (hj j h)⟩
theorem root_m {X Z Y:NP} {w0:World} {LL:List LV} {b K L:Nat} {l:List In} {pc:Int} {C:Nat->VL} (w:World) (h:OneS X Z w0 LL b K L l pc Y C w) (hK:K<=1000000000) :
  Calls prog 122 #[.pointer (some (a_ b))] w fun e w'=>e=.returned (.tuple #[])/\Ms X Z w0 LL b K L l pc Y C w w' (fun j=>j≠81):=by
 obtain ⟨HA,hn,hc,A5,hH,A3⟩:=h.fr.slc (i:=0) rfl (j:=36) (e:=objT) rfl rfl;have HH:=h_ (SlT w Y K objT HA hn hc) hH;have HS:=q_ h;clear h hH A3;go_enter func122,ntmps122;go_wp2_with fail;refine (Get_t Y K HA hn hc 1 w HH.o o_).mono ?_;rintro e S ⟨⟨oi,oA,on,oc,ob,rfl⟩,hS⟩;obtain ⟨V,hV,A2,A4,V0⟩:=af_ S [i_ oi,.slice oA on oc] 90;have HB:=q_ (hS.trans (A2.mono hS.size));have v0:=V0.2.1 0 _ rfl;have v1:=V0.2.1 1 _ rfl;have HV:=q_ (HS.o.call HB.o);obtain ⟨bk,A6,A1⟩:=HV.o.fr.tru (i:=0) rfl (j:=81) rfl rfl;have A0:=q_ A1;have fb:=HV.o.fr.fz (i:=0) rfl;clear hS A2 A4 V0 A5 A1;go_upto_region 1 with fail;rw [<-hV];clear hV;cases bk
 ·go_wp2;all_goals
   refine end0 za_ rfl ?_;exact ⟨rfl,Ms.after HB.o (HV.o.set81 A0.o _ x_)⟩
 go_wp2;all_goals
  refine end0 za_ rfl ?_;exact ⟨rfl,Ms.after HB.o (HV.o.set81 A0.o _ (fun _=>rfl))⟩
theorem infoStr:(prog.info? 9).map (fun i=>(i.zero,i.size,i.bytes))=some (some (.string ⟨#[]⟩),1,16):=by kernel_rfl
theorem ei_strP:EI prog 188 9 [.sat strP] 16:=EI.of (z:=.string ⟨#[]⟩) underlying188 infoStr rfl d_
theorem slt_strs {w:World} {X:NP} {g n:Nat} (hg:g<w) (hX:¬X g) (hn:n<=20) (hc:∀ i,i<n->∃ s:ByteArray,w.cell? (f_ g i)=some (.string s)/\s.size<=100):SlT w X 20 [.sat strP] (some (a_ g)) n n:=by
 refine ⟨hn,l_,o_,x_,fun ad h=>?_⟩;injection h with h;subst h;obtain ⟨l,hl,hR⟩:=list_choose (n:=n) (R:=fun i (s:ByteArray)=>w.cell? (f_ g i)=some (.string s)/\s.size<=100) hc;refine ⟨g,0,rfl,hg,hX,fun k _=>.string ((l[k]?).getD ⟨#[]⟩),fun k j t hk hj=>?_,fun k j t hk hj=>?_⟩
 ·have A0:j=0:=by have:=(e_ hj).1;simp at this;omega
  subst A0;obtain ⟨h1,h2⟩:=hR k _ (ge_ (by omega:k<l.length));have e:(l[k]?).getD ⟨#[]⟩=l[k]:=by rw [ge_ (by omega:k<l.length),Option.getD_some]
  show _=some (Value.string ((l[k]?).getD ⟨#[]⟩))
  rw [e]
  simpa using h1
 have A0:j=0:=by have:=(e_ hj).1;simp at this;omega
 subst A0;injection hj with hj;subst hj;obtain ⟨h1,h2⟩:=hR k _ (ge_ (by omega:k<l.length));have e:(l[k]?).getD ⟨#[]⟩=l[k]:=by rw [ge_ (by omega:k<l.length),Option.getD_some]
 show VT w X 20 (.sat strP) (Value.string ((l[k]?).getD ⟨#[]⟩))
 rw [e];exact .sat _ _ rfl ⟨_,rfl,h2⟩
theorem SlT.str_at {w:World} {X:NP} {K n c k:Nat} {A:OA} (h:SlT w X K [.sat strP] A n c) (hk:k<n):∃ g o,∃ s:ByteArray,A=some (f_ g o)/\g<w/\s.size<=100/\w.cell? ⟨g,o+k,none⟩=some (.string s):=by
 obtain ⟨g,o,hA,hg,hX,us,hv,hm⟩:=h.mt hk;obtain ⟨u,hu,ht⟩:=hv.2 0 (.sat strP) rfl;obtain ⟨t,rfl,A0⟩:strP u:=by cases ht;assumption
 exact ⟨g,o,t,hA,hg,A0,by have:=hm 0 _ hu;simpa using this⟩
theorem first_m (X:NP) (D:Nat) (A:OA) (n c:Nat) (g:Nat) (w:World) (hX:∀ k,X k->k<w) (hl:SlP w X 20 pS (ah_ D) A n c) (hn:n<=9) (hg:g<w) (hgX:¬X g) (hc:∀ i,i<3->∃ s:ByteArray,w.cell? (f_ g i)=some (.string s)/\s.size<=100) :
  Calls prog 115 #[.slice A n c,.slice (some (a_ g)) 3 3] w fun e w'=>RLO X w D (n+8) e w'/\Below w w w':=by
 have HL:=q_ hl;have HX:=q_ hX;have HG:=q_ (slt_strs hg hgX d_ hc);clear hl hX hc;go_enter func115,ntmps115;go_upto_region 2 with fail;go_upto_region 3 with (first
  | (go_at_call 167;refine (names_m w).mono ?_;rintro e w1 ⟨rfl,Ar,A0,Ac⟩;have HN:=q_ (slt_strs (X:=X) (w:=w1) (g:=w) (n:=5) o_ (fun h=>by have:=HX.o _ h;omega) d_ Ac);have Aa:=q_ A0;have Af:=q_ (HG.o.up (Kp.of_below A0) (l_));have Am:=h_ (∀ k,X k->k<w1) (fun k hk=>by have:=HX.o k hk;omega);clear Ac A0)
  | (at_builtin;refine wpList_append_sh rfl _ _ rfl ei_strP X 20 _ 5 5 v_ HN.o _ 3 3 v_ Af.o (.inr d_) Am.o d_ m_ d_ ?_;intro A2 c2 w2 Ad A1)
  | fail)
 have A7:=q_ (Aa.o.trans (A1.mono Aa.o.size));have Ai:=q_ Ad;have A3:(w:Nat)<=w2:=A7.o.size;clear Ad A1;go_upto_block 0 with fail;go_loopw [5,12] (fun o iv wr=>∃ (A':OA) (m c':Nat),m<=8/\o=.slice A' m c'/\iv=i_ m/\Hid (OwP wr w2 212 pS (ah_ D) X 20 A' m c')/\Hid (Below w2 w2 wr)) (fun _ iv _=>8 - (intOf iv).toNat)
 case atStart=>exact ⟨none,0,0,o_,rfl,rfl,q_ (OwP.nil _ _ _ _ _ _ _),q_ (b_)⟩
 obtain ⟨A',m,c',hm,rfl,rfl,HO,HB⟩:=hrel;have Ap:(w2:Nat)<=wr:=HB.o.size;have A4:=h_ (∀ k,X k->k<wr) (fun k hk=>by have:=HX.o k hk;omega);by_cases hlt:m<8
 ·have A8:(m:Int)<8:=by omega
  obtain ⟨sg,so,s,rfl,Aq,Ao,An⟩:=(Ai.o.up (Kp.of_below HB.o) (l_)).str_at hlt;go_upto_region 5 with fail;clear An;go_wp2_with fail;refine (num_m 0 wr).mono ?_;rintro e v1 ⟨rfl,A0⟩;have B1:=q_ A0;have E1:=h_ (ExV v1 (Wi X (Value.slice A' m c').ownBlock) dE 1 0 ⟨#[]⟩ 0 none 0 0) (⟨exprT_le (Nat.zero_le _) (vts_ex0 _ _ _ _) (pE_ex x_ x_ d_),pE_ex x_ x_ d_⟩);have O1:=q_ (HO.o.below A0);have X1:=h_ (∀ k,Wi X (Value.slice A' m c').ownBlock k->k<v1) (fun k hk=>by
   have:=A0.size
   rcases hk with hk | hk
   ·have:=A4.o k hk;omega
   have:=(HO.o.blk hk).2;omega)
  clear A0;go_wp2_with fail;refine (set_m (Wi X (Value.slice A' m c').ownBlock) s 1 0 ⟨#[]⟩ 0 none 0 0 v1 Ao E1.o X1.o).mono ?_;rintro e v2 ⟨⟨kd,s2,f,n',op,E,em,ec,B,m1,c1,C,m2,c3,rfl,hv⟩,A1⟩;have B2:=q_ (B1.o.trans (A1.mono B1.o.size));have V2:=h_ (VTs v2 (Wi X (Value.slice A' m c').ownBlock) 20 (ah_ D) (stL kd s2 f n' op E em ec B m1 c1 C m2 c3)/\pS (stL kd s2 f n' op E em ec B m1 c1 C m2 c3)) (⟨stmtT_le (Nat.zero_le _) hv.o.1 hv.o.2,hv.o.2⟩);have O2:=q_ (O1.o.below A1);have BN:=q_ (Bx.new v2 (stL kd s2 f n' op E em ec B m1 c1 C m2 c3) 212);obtain ⟨U,hU⟩:=ex_ (v2.alloc (.cells (stL kd s2 f n' op E em ec B m1 c1 C m2 c3).toArray 212));rw [<-hU] at BN;have A5:Below v2 v2 U:=by rw [hU];exact av_ _ _ _
  have A3:(wr:Nat)<=v2:=B2.o.size;have O3:=q_ (O2.o.below A5);have Ab:=h_ (Below wr wr U) (B2.o.trans (A5.mono A3));have As:(wr:Nat)<=U:=Ab.o.size;have Aj:=h_ (SlP U (Wi X (Value.slice A' m c').ownBlock) 20 pS (ah_ D) (some (a_ v2)) 1 1) (SlP.one BN.o (fun h=>by rcases h with h | h;(have:=A4.o _ h;omega);(have:=(O2.o.blk h).2;omega)) d_ (V2.o.1.up (.of_below A5) (l_)) V2.o.2);have Al:=h_ (∀ k,X k->k<U) (fun k hk=>by have:=A4.o k hk;omega);have Ak:=h_ (U=v2.alloc (.cells #[i_ kd,.string s2,.string f,i_ n',i_ op,.slice E em ec,.slice B m1 c1,.slice C m2 c3] 212)) hU;clear hv A1 hU A5;go_wp2_with (at_builtin;rw [<-Ak.o];refine do_ rfl _ _ rfl ei_stmt v_ O3.o v_ Aj.o Al.o m_ o_ o_ ?_;intro A6 c6 w6 o6 g6 l6);have A9:∀ k,(Value.slice A' m c').ownBlock=some k->w2<=k/\k<U:=fun k hk=>O3.o.blk hk
  have Ae:=q_ ((HB.o.trans (Ab.o.mono Ap)).grown g6 o_ (fun k hk=>(A9 k hk).1));have Ah:=q_ o6;clear o6 g6 l6;go_roundw
  case rel=>exact ⟨A6,m+1,c6,o_,rfl,zb_,Ah,Ae⟩
  case measure=>exact me_
 have A8:¬(m:Int)<8:=by omega
 obtain rfl:m=8:=by omega
 have Ag:=h_ (SlP wr (Wi X (Value.slice A' 8 c').ownBlock) 20 pS (ah_ D) A n c) (HL.o.kept (.of_below (A7.o.trans (HB.o.mono A3))) (fun k hk h1 h2=>by rcases h2 with h2 | h2;exact h1 h2;(have:=(HO.o.blk h2).1;omega)) (l_));go_upto_region 7 with fail;go_wp2_with (at_builtin;refine do_ rfl _ _ rfl ei_stmt v_ HO.o v_ Ag.o A4.o m_ o_ o_ ?_;intro A6 c6 w6 o6 g6 l6);go_ret;exact ⟨⟨A6,8+n,c6,rfl,o_,fun h=>o_,q_ (o6.mono A3)⟩,(A7.o.trans (HB.o.mono A3)).grown g6 o_ (fun k hk=>by have:=(HO.o.blk hk).1;omega)⟩
end Go.Proofs.YtfolidlmgfhkiaaGreat
