/- Lemmas: each says what a function of the program leaves, under the conditions that it states. -/
import Derived.Test.YtfolidlmgfhkiaaGreatZ08
import Derived.Test.YtfolidlmgfhkiaaGreatZ17
set_option linter.unusedVariables false
set_option linter.unusedSimpArgs false
set_option maxRecDepth 100000
set_option maxHeartbeats 4000000
namespace Go.Proofs.YtfolidlmgfhkiaaGreat
open Go.RowKit
section
variable {X Z Y:NP} {w0 w w':World} {L:List LV} {C:Nat->VL} {b i j:Nat} {K:Nat->Nat} {ts:List CT} {ow:Nat->Option TypeId} {t:CT} {v:Value}
theorem Fr.root (h:Fr X Z w0 L Y C w):Fr (fun _=>False) Y w L Y C w :=
 ⟨Kp.refl _ _,fun _ h=>h.elim,h.lt,fun p hp=>by obtain ⟨h1,h2,h3,h4⟩:=h.blk p hp;exact ⟨h1,.inr h1,h3,h4⟩,h.val,
   fun p hp j t et hj ho=>by
  obtain ⟨e,A,n,c,h1,h2,h3,h4,h5⟩:=h.row p hp j t et hj ho
  exact ⟨e,A,n,c,h1,h2,h3,h4,fun g hg=>⟨(h5 g hg).1,.inr (h5 g hg).1,(h5 g hg).2.2⟩⟩,h.far,h.nd⟩
theorem Fr.weak {L':List LV} (h:Fr X Z w0 L Y C w) (hL:L'.length=L.length) (hr:∀ (i:Nat) (p q:LV),L[i]?=some p->L'[i]?=some q->q.b=p.b/\q.ow=p.ow/\(∀ j,p.K j<=q.K j)/\q.ts.length=p.ts.length/\∀ j t t',p.ts[j]?=some t->q.ts[j]?=some t' →
   (p.ow j=none->∀ v,VT w Y (q.K j) t v->VT w Y (q.K j) t' v)/\(p.ow j≠none->∀ e:List CT,t=.sl e->∃ e':List CT,t'=.sl e'/\e'.length=e.length/\∀ (i:Nat) (s s':CT),e[i]?=some s->e'[i]?=some s'->∀ (X':NP) (K':Nat) (v:Value),VT w X' K' s v->VT w X' K' s' v)):Fr X Z w0 L' Y C w:=by
 have back:∀ q ∈ L',∃ i p,p ∈ L/\L[i]?=some p/\L'[i]?=some q:=fun q hq=>by
  obtain ⟨i,hi⟩:=List.getElem?_of_mem hq;have A0:i<L.length:=by rw [←hL];exact (e_ hi).1
  exact ⟨i,L[i],List.getElem_mem A0,ge_ A0,hi⟩
 refine ⟨h.kp,h.sub,h.lt,fun q hq=>?_,fun q hq j t hj ho=>?_,fun q hq j t et hj ho=>?_,fun p hp q hq i j u v g hne A1 A2 hi hj hu=>?_,?_⟩
 ·obtain ⟨i,p,hp,a1,a2⟩:=back q hq;obtain ⟨e1,e2,e3,e4,e5⟩:=hr i p q a1 a2;rw [e1,e4];exact h.blk p hp
 ·obtain ⟨i,p,hp,a1,a2⟩:=back q hq;obtain ⟨e1,e2,e3,e4,e5⟩:=hr i p q a1 a2;have A0:j<p.ts.length:=by rw [←e4];exact (e_ hj).1
  rw [e2] at ho;obtain ⟨v,h1,h2⟩:=h.val p hp j _ (ge_ A0) ho;rw [e1];exact ⟨v,h1,(e5 j _ t (ge_ A0) hj).1 ho v (h2.kept (Kp.refl _ _) (fun _ _ h=>h) (e3 j))⟩
 ·obtain ⟨i,p,hp,a1,a2⟩:=back q hq;obtain ⟨e1,e2,e3,e4,e5⟩:=hr i p q a1 a2;have A0:j<p.ts.length:=by rw [←e4];exact (e_ hj).1
  rw [e2] at ho;obtain ⟨e,A,n,c,h1,h2,h3,h4,h5⟩:=h.row p hp j _ et (ge_ A0) ho;obtain ⟨e',f1,f2,f3⟩:=(e5 j _ t (ge_ A0) hj).2 (fun e=>by rw [ho] at e;cases e) e h1;rw [e1];refine ⟨e',A,n,c,f1,h2,Nat.le_trans h3 (e3 j),?_,fun g hg=>⟨(h5 g hg).1,(h5 g hg).2.1,fun r A6=>?_⟩⟩
  ·obtain ⟨xs,o1,o2⟩:=h4;refine ⟨xs,by rw [f2];exact o1,fun k q t' hk hq=>?_⟩;have A3:q<e.length:=by rw [←f2];exact (e_ hq).1
   obtain ⟨u,hu,hv⟩:=o2 k q _ hk (ge_ A3);rw [f2];exact ⟨u,hu,f3 q _ t' (ge_ A3) hq _ _ u (hv.kept (Kp.refl _ _) (fun _ _ h=>h) (e3 j))⟩
  obtain ⟨i',s,hs,b1,b2⟩:=back r A6;rw [(hr i' s r b1 b2).1];exact (h5 g hg).2.2 s hs
 ·obtain ⟨i1,p',A4,a1,a2⟩:=back p hp;obtain ⟨i2,q',A5,b1,b2⟩:=back q hq;obtain ⟨e1,e2,_⟩:=hr i1 p' p a1 a2;obtain ⟨f1,f2,_⟩:=hr i2 q' q b1 b2;rw [e1] at hi;rw [f1] at hj;rw [e1,f1] at hne;rw [e2] at A1;rw [f2] at A2;exact h.far p' A4 q' A5 i j u v g hne A1 A2 hi hj hu
 have:L'.map LV.b=L.map LV.b:=by
  apply List.ext_getElem?;intro i;rw [List.getElem?_map,List.getElem?_map];by_cases hi:i<L.length
  ·rw [ge_ hi,ge_ (by rw [hL];exact hi)];simp only [Option.map_some];rw [(hr i _ _ (ge_ hi) (ge_ (by rw [hL];exact hi))).1]
  rw [List.getElem?_eq_none o_,List.getElem?_eq_none o_]
 rw [this];exact h.nd
theorem Fr.row_set {e:List CT} {et:TypeId} {g n c k q:Nat} {t':CT} {u:Value} (h:Fr X Z w0 L Y C w) (hp:L[i]?=some ⟨b,K,ts,ow⟩) (hj:ts[j]?=some (.sl e)) (ho:ow j=some et) (hC:(C b)[j]?=some (.slice (some (a_ g)) n c))
  (hk:k<n) (hq:e[q]?=some t') (hu:VT w Y (K j) t' u) (ad:Addr) (had:ad=⟨g,k*e.length+q,none⟩):Fr X Z w0 L Y C (w.setCell ad u)/\Up w Y (w.setCell ad u) Y:=by
 have A9:=Fr.mem hp;obtain ⟨e1,A1,n1,c1,q1,q2,q3,q4,q5⟩:=h.row _ A9 j _ et hj ho;injection q1 with q1;subst q1;rw [show (C b)[j]?=some (.slice A1 n1 c1) from q2] at hC;injection hC with hC;injection hC with ha hb hc;subst ha hb hc;obtain ⟨A7,Ac,Ad⟩:=q5 g rfl;have Ae:Kp Y w (w.setCell ad u):=(Kp.refl _ w).setCell (.inl (by rw [had];exact A7)) u;have A3:Kp (fun k=>k=g) w (w.setCell ad u):=(Kp.refl _ w).setCell (.inl (by rw [had])) u;have Ab:Up w Y (w.setCell ad u) Y:=⟨Ae,fun _ _ h=>h⟩;have hg:w.grownBy (w.setCell ad u) (some g):=⟨A3.os,A3.tape,A3.output,A3.size,fun k A2 hne=>A3.block k A2 (fun e=>hne (by rw [e]))⟩;have hsz:(w.setCell ad u).heap.size=w:=by simp [World.setCell]
 refine ⟨⟨h.kp.setCell (by rw [had];rcases Ac with h1 | h1;exact .inr h1;exact .inl h1) u,h.sub,fun k A2=>by rw [hsz];exact h.lt k A2,fun p A0=>?_,fun p A0 i2 t A6 A4=>?_,fun p A0 i2 t Aa A6 A4=>?_,h.far,h.nd⟩,Ab⟩
 ·obtain ⟨h1,h2,h3,h4⟩:=h.blk p A0;exact ⟨h1,h2,h3.kp A3 (Ad p A0),h4⟩
 ·obtain ⟨v,h1,h2⟩:=h.val p A0 i2 t A6 A4;exact ⟨v,h1,h2.go Ab (l_)⟩
 obtain ⟨e2,A,n,c,h1,h2,h3,h4,h5⟩:=h.row p A0 i2 t Aa A6 A4;refine ⟨e2,A,n,c,h1,h2,h3,?_,h5⟩;by_cases hsame:p.b=b/\i2=j
 ·obtain ⟨A5,rfl⟩:=hsame;have:=nodup_eq h.nd A0 A9 A5;subst this;rw [show ts[i2]?=some t from A6] at hj;injection hj with hj;subst hj;injection h1 with h1;subst h1;rw [show (C b)[i2]?=some (.slice A n c) from h2] at q2;injection q2 with q2;injection q2 with r1 r2 r3;subst r1 r2 r3;rw [show ow i2=some Aa from A4] at ho;injection ho with ho;subst ho;exact h4.set hk hq (hu.kept (Kp.refl _ _) (fun k _ hn hy=>by
   rcases hy with hy | hy
   ·exact hn hy
   injection hy with hy;subst hy;exact hn A7) (l_)) ad had
 refine h4.stay hg (fun k A2=>?_);injection A2 with A2;subst A2;refine ⟨A7,fun A8=>?_⟩;refine h.far p A0 _ A9 i2 j (.slice A n c) (.slice (some (a_ g)) n1 c1) g ?_ (fun e=>by rw [A4] at e;cases e) (fun e=>by cases (show some et=none from ho.symm.trans e)) h2 q2 A8 rfl;by_cases A5:p.b=b
 ·exact .inr (fun e=>hsame ⟨A5,e⟩)
 exact .inl A5
theorem own_cut {base sz n c k:Nat} {et:TypeId} {A:OA} {xs:VL} (ho:w.ownsRow base et sz (.slice A n c) n xs) (hk:k<=n):w.ownsRow base et sz (.slice A k c) k (xs.take (k*sz)):=by
 have hm:k*sz<=n*sz:=Nat.mul_le_mul_right _ hk;refine ⟨by rw [List.length_take,ho.1];omega,?_⟩;rcases ho.2 with ⟨h',h0⟩ | ⟨g,cap,cur,h',hg,hr,h1,h2,h3,h4⟩
 ·injection h' with q1 q2 q3;subst q1 q3;obtain rfl:k=0:=by omega
  exact .inl ⟨rfl,rfl⟩
 injection h' with q1 q2 q3;subst q1 q3;exact .inr ⟨g,_,cur,rfl,hg,hr,o_,h2,h3,by rw [←h4,List.take_take,Nat.min_eq_left hm]⟩
theorem OwT.cut {base n c k K:Nat} {et:TypeId} {e:List CT} {A:OA} (h:OwT w base et e Y K A n c) (hk:k<=n):OwT w base et e Y K A k c:=by
 obtain ⟨xs,ho,hx⟩:=h;refine ⟨_,own_cut ho hk,fun q j t hq hj=>?_⟩;obtain ⟨u,hu,hv⟩:=hx q j t o_ hj;refine ⟨u,?_,?_⟩
 ·have A0:j<e.length:=(e_ hj).1;have:q*e.length+e.length<=k*e.length:=by rw [←Nat.succ_mul];exact Nat.mul_le_mul_right _ hq
  rw [List.getElem?_take,if_pos o_];exact hu
 cases A <;> exact hv
end
/- Generated code. -/
def idxP (N:Nat) (v:Value):Prop:=∃ i:Nat,v=i_ i/\i<N
def ptrP (qs:List Nat) (v:Value):Prop:=∃ q ∈ qs,v=.pointer (some (a_ q))
theorem idxP.up {N N':Nat} {v:Value} (h:idxP N v) (hN:N<=N'):idxP N' v:=by obtain ⟨i,rfl,hi⟩:=h;exact ⟨i,rfl,o_⟩
theorem ptrP.up {qs qs':List Nat} {v:Value} (h:ptrP qs v) (hq:∀ q ∈ qs,q ∈ qs'):ptrP qs' v:=by obtain ⟨i,hi,rfl⟩:=h;exact ⟨i,hq i hi,rfl⟩
theorem VT.sat_up {w:World} {X:NP} {K:Nat} {p p':Value->Prop} {v:Value} (h:VT w X K (.sat p) v) (hp:p v->p' v):VT w X K (.sat p') v:=by
 cases h with
 | sat _ _ h1 h2=>exact .sat _ _ h1 (hp h2)
theorem VT.sat_of {w:World} {X:NP} {K:Nat} {p:Value->Prop} {v:Value} (h:VT w X K (.sat p) v):p v:=by
 cases h with
 | sat _ _ h1 h2=>exact h2
def genT (N F:Nat) (pv:Nat->Value) (qs:List Nat):List CT:=[.sat (fun v=>v=pv 0),.sl aw_,.num,.sl [.num],.sl [.num],.sl [.sat (idxP N),.sat (idxP F)],.sl [.txt],.num,.num,.sl [.sat (ptrP qs)]]
def cu_:Nat->Option TypeId:=fun j=>if j=1 then some 202 else if j=3∨j=4 then some 3 else if j=5 then some 200 else if j=9 then some 305 else none
def genK (N:Nat):Nat->Nat:=fun j=>if j=6 then 900000000 else if j=9 then 1000 else N+1
def genV (b N F:Nat) (pv:Nat->Value) (qs:List Nat):LV:=⟨b,genK N,genT N F pv qs,cu_⟩
def atOw:Nat->Option TypeId:=fun j=>if j=0 then some 3 else none
def atV (N q:Nat):LV:=⟨q,fun _=>N+1,[.sl [.sat (idxP N)]],atOw⟩
def X34 (cs:VL) (pv:Nat->Value):Prop:=(∃ A c e,cs[3]?=some (.slice A e c)/\pv 3=i_ (e:Nat))/\∃ A c e,cs[4]?=some (.slice A e c)/\pv 4=i_ (e:Nat)
theorem X34.set {cs:VL} {pv:Nat->Value} (h:X34 cs pv) {j:Nat} (v:Value) (h3:j≠3) (h4:j≠4):X34 (cs.set j v) pv:=by
 obtain ⟨⟨A,c,e,a1,a2⟩,A',c',e',b1,b2⟩:=h;exact ⟨⟨A,c,e,by rw [gs_,if_neg h3];exact a1,a2⟩,A',c',e',by rw [gs_,if_neg h4];exact b1,b2⟩
def GC (b F:Nat) (pv:Nat->Value) (qs:List Nat) (N M o:Nat) (G:NP) (w:World):Prop :=
 ∃ C,Fr (fun _=>False) G w (genV b N F pv qs :: qs.map (atV N)) G C w/\(∃ A c,(C b)[1]?=some (.slice A M c))/\(∃ A c,(C b)[9]?=some (.slice A o c))/\X34 (C b) pv
section
variable {b F N M o:Nat} {pv:Nat->Value} {qs:List Nat} {G:NP} {w w':World}
theorem GC.below (h:GC b F pv qs N M o G w) (hb:Below w w w'):GC b F pv qs N M o G w':=by
 obtain ⟨C,f,h1,h2⟩:=h;exact ⟨C,(f.call hb).root,h1,h2⟩
theorem GC.lt (h:GC b F pv qs N M o G w):∀ k,G k->k<w:=by obtain ⟨C,f,_⟩:=h;exact f.lt
theorem GC.raise {N':Nat} (h:GC b F pv qs N M o G w) (hN:N<=N'):GC b F pv qs N' M o G w:=by
 obtain ⟨C,f,h1,h2⟩:=h;refine ⟨C,f.weak t_ (fun i p q hp hq=>?_),h1,h2⟩;cases i with
 | zero =>
  simp at hp hq;subst hp hq;refine ⟨rfl,rfl,fun j=>?_,rfl,fun j t t' ht A1=>?_⟩
  ·show genK N j<=genK N' j
   unfold genK;split;omega;split <;> omega
  have ht:(genT N F pv qs)[j]?=some t:=ht;have A1:(genT N' F pv qs)[j]?=some t':=A1;by_cases h5:j=5
  ·subst h5;injection ht with ht;injection A1 with A1;subst ht A1;refine ⟨x_,fun _ e he=>⟨_,rfl,by injection he with he;subst he;rfl,fun i s s' hs A0 X' K' v hv=>?_⟩⟩;injection he with he;subst he
   match i,hs,A0 with
   | 0,hs,A0=>injection hs with hs;injection A0 with A0;subst hs A0;exact hv.sat_up (fun h=>h.up hN)
   | 1,hs,A0=>injection hs with hs;injection A0 with A0;subst hs A0;exact hv
  have:t'=t:=by
   have:(genT N' F pv qs)[j]?=(genT N F pv qs)[j]?:=by
    match j,h5 with
    | 0,_=>rfl
    | 1,_=>rfl
    | 2,_=>rfl
    | 3,_=>rfl
    | 4,_=>rfl
    | 5,h=>exact absurd rfl h
    | 6,_=>rfl
    | 7,_=>rfl
    | 8,_=>rfl
    | 9,_=>rfl
    | j+10,_=>rfl
   rw [A1,ht] at this;injection this
  subst this;exact ⟨fun _ v h=>h,fun _ e he=>⟨e,he,rfl,fun i s s' hs A0 X' K' v hv=>by rw [hs] at A0;injection A0 with A0;subst A0;exact hv⟩⟩
 | succ i =>
  simp at hp hq;obtain ⟨a,ha,rfl⟩:=hp;rw [ha] at hq;simp at hq;subst hq;refine ⟨rfl,rfl,fun j=>(by show N+1<=N'+1;omega),rfl,fun j t t' ht A1=>?_⟩;have ht:([.sl [.sat (idxP N)]]:List CT)[j]?=some t:=ht;have A1:([.sl [.sat (idxP N')]]:List CT)[j]?=some t':=A1
  match j,ht,A1 with
  | 0,ht,A1 =>
   injection ht with ht;injection A1 with A1;subst ht A1;refine ⟨x_,fun _ e he=>⟨_,rfl,by injection he with he;subst he;rfl,fun i s s' hs A0 X' K' v hv=>?_⟩⟩;injection he with he;subst he
   match i,hs,A0 with
   | 0,hs,A0=>injection hs with hs;injection A0 with A0;subst hs A0;exact hv.sat_up (fun h=>h.up hN)
def KpC (b:Nat) (qs:List Nat) (j:Nat) (w w':World):Prop:=(∀ q ∈ qs,w'.cell? (a_ q)=w.cell? (a_ q))/\∀ i,i<10->i≠j->w'.cell? (f_ b i)=w.cell? (f_ b i)
theorem GC.own {e:List CT} {et:TypeId} {j:Nat} (h:GC b F pv qs N M o G w) (hj:(genT N F pv qs)[j]?=some (.sl e)) (ho:cu_ j=some et):∃ A n c,w.cell? (f_ b j)=some (.slice A n c)/\n<=genK N j/\OwT w 0 et e G (genK N j) A n c/\(∀ g,(Value.slice A n c).ownBlock=some g->G g)/\(j=1->n=M)/\(j=9->n=o):=by
 obtain ⟨C,f,⟨A1,c1,h1⟩,⟨A9,c9,h9⟩,hx⟩:=h;obtain ⟨A,n,c,g1,g2,g3,g4,g5⟩:=f.own (i:=0) rfl hj ho;refine ⟨A,n,c,g1,g3,g4,g5,fun A0=>?_,fun A2=>?_⟩
 ·subst A0;rw [h1] at g2;injection g2 with g2;injection g2 with _ g2 _;exact g2.symm
 subst A2;rw [h9] at g2;injection g2 with g2;injection g2 with _ g2 _;exact g2.symm
theorem GC.cell {t:CT} {j:Nat} (h:GC b F pv qs N M o G w) (hj:(genT N F pv qs)[j]?=some t) (ho:cu_ j=none):∃ v,w.cell? (f_ b j)=some v/\VT w G (genK N j) t v:=by
 obtain ⟨C,f,_⟩:=h;obtain ⟨v,_,g1,g2⟩:=f.get (i:=0) rfl hj ho;exact ⟨v,g1,g2⟩
theorem GC.fz (h:GC b F pv qs N M o G w) (j:Nat):w.frozen? (f_ b j)=false:=by
 obtain ⟨C,f,_⟩:=h;exact f.fz (i:=0) rfl j
theorem GC.blt (h:GC b F pv qs N M o G w):b<w:=by
 obtain ⟨C,f,_⟩:=h;exact f.blt (i:=0) rfl
theorem mem_at {L:List LV} {q N:Nat} (hq:q ∈ qs) (hL:L=genV b N F pv qs :: qs.map (atV N)):∃ i:Nat,L[i]?=some (⟨q,fun _=>N+1,[.sl [.sat (idxP N)]],atOw⟩:LV):=by
 subst hL;obtain ⟨i,hi⟩:=List.getElem?_of_mem hq;exact ⟨i+1,by rw [List.getElem?_cons_succ,List.getElem?_map,hi];rfl⟩
theorem GC.at_own {q:Nat} (h:GC b F pv qs N M o G w) (hq:q ∈ qs):∃ A n c,w.cell? (a_ q)=some (.slice A n c)/\n<=N+1/\OwT w 0 3 [.sat (idxP N)] G (N+1) A n c/\(∀ g,(Value.slice A n c).ownBlock=some g->G g)/\w.frozen? (a_ q)=false/\G q/\q≠b:=by
 obtain ⟨C,f,_⟩:=h;obtain ⟨i,hi⟩:=mem_at (b:=b) (F:=F) (pv:=pv) (N:=N) hq rfl;obtain ⟨A,n,c,g1,g2,g3,g4,g5⟩:=f.own (i:=i) hi (j:=0) rfl (show atOw 0=some 3 from rfl);refine ⟨A,n,c,g1,g3,g4,g5,f.fz hi 0,(f.blk _ (Fr.mem hi)).1,fun e=>?_⟩;have hn:=f.nd;rw [List.map_cons,List.nodup_cons] at hn;refine hn.1 (List.mem_map.2 ⟨atV N q,List.mem_map.2 ⟨q,hq,rfl⟩,e⟩)
theorem GC.kpc_of {X Z Y:NP} {w0 w1:World} {L:List LV} {C C':Nat->VL} {j:Nat} (hL:L=genV b N F pv qs :: qs.map (atV N)) {X' Z' Y':NP} {w0':World} (f:Fr X Z w0 L Y C w) (f':Fr X' Z' w0' L Y' C' w1) (hC:∀ k,k≠b->C' k=C k) (hb:∀ i,i≠j->(C' b)[i]?=(C b)[i]?):KpC b qs j w w1:=by
 refine ⟨fun q hq=>?_,fun i hi A1=>?_⟩
 ·obtain ⟨i,hi⟩:=mem_at (b:=b) (F:=F) (pv:=pv) (N:=N) hq hL;have A2:q≠b:=fun e=>by
   have hn:=f.nd;rw [hL,List.map_cons,List.nodup_cons] at hn;exact hn.1 (List.mem_map.2 ⟨atV N q,List.mem_map.2 ⟨q,hq,rfl⟩,e⟩)
  have A0:0<(C q).length:=by rw [f.len hi];simp
  rw [f.cell hi (ge_ A0),f'.cell hi (by rw [hC q A2];exact ge_ A0)]
 have h0:L[0]?=some ⟨b,genK N,genT N F pv qs,cu_⟩:=by rw [hL];rfl
 have A0:i<(C b).length:=by rw [f.len h0];exact hi
 rw [f.cell h0 (ge_ A0),f'.cell h0 (by rw [hb i A1];exact ge_ A0)]
theorem GC.grow {e:List CT} {et:TypeId} {j n n' c c':Nat} {A A':OA} (h:GC b F pv qs N M o G w) (hj:(genT N F pv qs)[j]?=some (.sl e)) (ho:cu_ j=some et) (hc:w.cell? (f_ b j)=some (.slice A n c))
  (hO:OwT w' 0 et e G (genK N j) A' n' c') (hn:n'<=genK N j) (hg:w.grownBy w' (Value.slice A n c).ownBlock) (hloc:∀ g,(Value.slice A' n' c').ownBlock=some g->(Value.slice A n c).ownBlock=some g∨g=w) (h34:j≠3/\j≠4:=by decide) :
  ∃ G',GC b F pv qs N (if j=1 then n' else M) (if j=9 then n' else o) G' (w'.setCell (f_ b j) (.slice A' n' c'))/\Up w G (w'.setCell (f_ b j) (.slice A' n' c')) G'/\KpC b qs j w (w'.setCell (f_ b j) (.slice A' n' c')):=by
 obtain ⟨C,f,⟨A1,c1,h1⟩,⟨A9,c9,h9⟩,hx⟩:=h;obtain ⟨A2,n2,c2,g1,g2,_⟩:=f.own (i:=0) rfl hj ho;rw [hc] at g1;injection g1 with g1;injection g1 with q1 q2 q3;subst q1 q2 q3;obtain ⟨G',f',u'⟩:=f.append (i:=0) rfl hj ho g2 hO hn hg hloc;have A3:j<(C b).length:=(e_ g2).1;have A0:(upd C b ((C b).set j (.slice A' n' c'))) b=(C b).set j (.slice A' n' c'):=upd_same _ _ _;refine ⟨G',⟨_,f'.root,?_,?_,by rw [A0];exact hx.set _ h34.1 h34.2⟩,u',GC.kpc_of rfl f f' (fun k hk=>ad_ _ _ hk) (fun i hi=>by rw [A0,gs_,if_neg (fun e=>hi e.symm)])⟩
 ·by_cases hj1:j=1
  ·subst hj1;exact ⟨A',c',by rw [A0,gs_,if_pos rfl,if_pos A3];rfl⟩
  exact ⟨A1,c1,by rw [A0,gs_,if_neg hj1,if_neg hj1];exact h1⟩
 by_cases hj1:j=9
 ·subst hj1;exact ⟨A',c',by rw [A0,gs_,if_pos rfl,if_pos A3];rfl⟩
 exact ⟨A9,c9,by rw [A0,gs_,if_neg hj1,if_neg hj1];exact h9⟩
theorem GC.set {t:CT} {v:Value} {j:Nat} (h:GC b F pv qs N M o G w) (hj:(genT N F pv qs)[j]?=some t) (ho:cu_ j=none) (hv:VT w G (genK N j) t v):GC b F pv qs N M o G (w.setCell (f_ b j) v)/\Up w G (w.setCell (f_ b j) v) G/\KpC b qs j w (w.setCell (f_ b j) v):=by
 obtain ⟨C,f,⟨A1,c1,h1⟩,⟨A9,c9,h9⟩,hx⟩:=h;obtain ⟨f',u'⟩:=f.set (i:=0) (j:=j) rfl hj ho hv;have A2:j≠1:=fun e=>by subst e;cases ho
 have A3:j≠9:=fun e=>by subst e;cases ho
 have A0:(upd C b ((C b).set j v)) b=(C b).set j v:=upd_same _ _ _;exact ⟨⟨_,f'.root,⟨A1,c1,by rw [A0,gs_,if_neg A2];exact h1⟩,⟨A9,c9,by rw [A0,gs_,if_neg A3];exact h9⟩,by rw [A0];exact hx.set _ (fun e=>by subst e;cases ho) (fun e=>by subst e;cases ho)⟩,u',GC.kpc_of rfl f f' (fun k hk=>ad_ _ _ hk) (fun i hi=>by rw [A0,gs_,if_neg (fun e=>hi e.symm)])⟩
theorem GC.at_grow {q n n' c c':Nat} {A A':OA} (h:GC b F pv qs N M o G w) (hq:q ∈ qs) (hc:w.cell? (a_ q)=some (.slice A n c))
  (hO:OwT w' 0 3 [.sat (idxP N)] G (N+1) A' n' c') (hn:n'<=N+1) (hg:w.grownBy w' (Value.slice A n c).ownBlock) (hloc:∀ g,(Value.slice A' n' c').ownBlock=some g->(Value.slice A n c).ownBlock=some g∨g=w) :
  ∃ G',GC b F pv qs N M o G' (w'.setCell (a_ q) (.slice A' n' c'))/\Up w G (w'.setCell (a_ q) (.slice A' n' c')) G':=by
 have A0:q≠b:=by obtain ⟨_,_,_,_,_,_,_,_,_,h⟩:=h.at_own hq;exact h
 obtain ⟨C,f,⟨A1,c1,h1⟩,⟨A9,c9,h9⟩,hx⟩:=h;obtain ⟨i,hi⟩:=mem_at (b:=b) (F:=F) (pv:=pv) (N:=N) hq rfl;obtain ⟨A2,n2,c2,g1,g2,_⟩:=f.own (i:=i) hi (j:=0) rfl (show atOw 0=some 3 from rfl);rw [hc] at g1;injection g1 with g1;injection g1 with q1 q2 q3;subst q1 q2 q3;obtain ⟨G',f',u'⟩:=f.append (i:=i) hi (j:=0) rfl (show atOw 0=some 3 from rfl) g2 hO hn hg hloc;exact ⟨G',⟨_,f'.root,⟨A1,c1,by rw [ad_ _ _ A0.symm];exact h1⟩,⟨A9,c9,by rw [ad_ _ _ A0.symm];exact h9⟩,by rw [ad_ _ _ A0.symm];exact hx⟩,u'⟩
theorem GC.new_at (h:GC b F pv qs N M o G w) (ty:TypeId):∃ G',GC b F pv (w.heap.size :: qs) N M o G' (w.alloc (.cells #[.slice none 0 0] ty))/\Up w G (w.alloc (.cells #[.slice none 0 0] ty)) G':=by
 have A4:=h.blt;obtain ⟨C,f,⟨A1,c1,h1⟩,⟨A9,c9,h9⟩,hx⟩:=h;obtain ⟨G',f',u'⟩:=f.add (fun _=>N+1) [.sl [.sat (idxP N)]] atOw [.slice none 0 0] ty rfl (fun j t hj=>by
  match j,hj with
  | 0,hj=>injection hj with hj;subst hj;exact ⟨_,rfl,.inr ⟨_,_,rfl,rfl,rfl⟩⟩)
 have f2:=f'.swap;have f3:Fr (fun _=>False) G w (genV b N F pv (w.heap.size :: qs) :: (w.heap.size :: qs).map (atV N)) G' (upd C w.heap.size [.slice none 0 0]) (w.alloc (.cells #[.slice none 0 0] ty)):=by
  refine f2.weak t_ (fun i p q hp hq=>?_);cases i with
  | zero =>
   simp at hp hq;subst hp hq;refine ⟨rfl,rfl,fun j=>l_,rfl,fun j t t' ht A2=>?_⟩;have ht:(genT N F pv qs)[j]?=some t:=ht;have A2:(genT N F pv (w.heap.size :: qs))[j]?=some t':=A2;by_cases h9:j=9
   ·subst h9;injection ht with ht;injection A2 with A2;subst ht A2;refine ⟨x_,fun _ e he=>⟨_,rfl,by injection he with he;subst he;rfl,fun i s s' hs A0 X' K' v hv=>?_⟩⟩;injection he with he;subst he
    match i,hs,A0 with
    | 0,hs,A0=>injection hs with hs;injection A0 with A0;subst hs A0;exact hv.sat_up (fun h=>h.up (fun q hq=>.tail _ hq))
   have:t'=t:=by
    have:(genT N F pv (w.heap.size :: qs))[j]?=(genT N F pv qs)[j]?:=by
     match j,h9 with
     | 0,_=>rfl
     | 1,_=>rfl
     | 2,_=>rfl
     | 3,_=>rfl
     | 4,_=>rfl
     | 5,_=>rfl
     | 6,_=>rfl
     | 7,_=>rfl
     | 8,_=>rfl
     | 9,h=>exact absurd rfl h
     | j+10,_=>rfl
    rw [A2,ht] at this;injection this
   subst this;exact ⟨fun _ v h=>h,fun _ e he=>⟨e,he,rfl,fun i s s' hs A0 X' K' v hv=>by rw [hs] at A0;injection A0 with A0;subst A0;exact hv⟩⟩
  | succ i =>
   have A3:p=q:=by
    cases i with
    | zero=>simp at hp hq;rw [←hp,←hq];rfl
    | succ i=>simp at hp hq;obtain ⟨a,ha,rfl⟩:=hp;rw [ha] at hq;simpa using hq
   subst A3;exact ⟨rfl,rfl,fun j=>l_,rfl,fun j t t' ht A2=>by
    rw [ht] at A2;injection A2 with A2;subst A2
    exact ⟨fun _ v h=>h,fun _ e he=>⟨e,he,rfl,fun i s s' hs A0 X' K' v hv=>by rw [hs] at A0;injection A0 with A0;subst A0;exact hv⟩⟩⟩
 exact ⟨G',⟨_,f3.root,⟨A1,c1,by rw [ad_ _ _ o_];exact h1⟩,⟨A9,c9,by rw [ad_ _ _ o_];exact h9⟩,by rw [ad_ _ _ o_];exact hx⟩,u'⟩
theorem GC.patch {g c k q:Nat} {n:Int} (h:GC b F pv qs N M o G w) (hc:w.cell? (f_ b 1)=some (.slice (some (a_ g)) M c)) (hk:k<M) (hq:q<5) (ad:Addr) (had:ad=⟨g,k*5+q,none⟩):GC b F pv qs N M o G (w.setCell ad (i_ n))/\Up w G (w.setCell ad (i_ n)) G/\KpC b qs 10 w (w.setCell ad (i_ n)):=by
 obtain ⟨C,f,⟨A1,c1,h1⟩,⟨A9,c9,h9⟩,hx⟩:=h;have A0:=f.cell (i:=0) rfl h1;rw [hc] at A0;injection A0 with A0;injection A0 with q1 q2 q3;subst q1 q3;obtain ⟨f',u'⟩:=f.row_set (i:=0) (j:=1) (e:=aw_) (et:=202) rfl rfl rfl h1 hk (q:=q) (t':=.num) (by
  match q,hq with
  | 0,_=>rfl
  | 1,_=>rfl
  | 2,_=>rfl
  | 3,_=>rfl
  | 4,_=>rfl) (u:=.int .i64 n) (.num _) ad had
 exact ⟨⟨C,f'.root,⟨_,_,h1⟩,⟨A9,c9,h9⟩,hx⟩,u',GC.kpc_of (j:=10) rfl f f' (fun _ _=>rfl) (fun _ _=>rfl)⟩
theorem GC.len34 (h:GC b F pv qs N M o G w):(∃ A c e,w.cell? (f_ b 3)=some (.slice A e c)/\pv 3=i_ (e:Nat))/\∃ A c e,w.cell? (f_ b 4)=some (.slice A e c)/\pv 4=i_ (e:Nat):=by
 obtain ⟨C,f,_,_,⟨A,c,e,a1,a2⟩,A',c',e',b1,b2⟩:=h;exact ⟨⟨A,c,e,f.cell (i:=0) rfl a1,a2⟩,A',c',e',f.cell (i:=0) rfl b1,b2⟩
def upv (pv:Nat->Value) (j n:Nat):Nat->Value:=fun i=>if i=j then i_ (n:Int) else pv i
theorem GC.grow34 {j n n' c c':Nat} {A A':OA} (h:GC b F pv qs N M o G w) (hj:j=3∨j=4) (hc:w.cell? (f_ b j)=some (.slice A n c))
  (hO:OwT w' 0 3 [.num] G (N+1) A' n' c') (hn:n'<=N+1) (hg:w.grownBy w' (Value.slice A n c).ownBlock) (hloc:∀ g,(Value.slice A' n' c').ownBlock=some g->(Value.slice A n c).ownBlock=some g∨g=w) :
  ∃ G',GC b F (upv pv j n') qs N M o G' (w'.setCell (f_ b j) (.slice A' n' c'))/\Up w G (w'.setCell (f_ b j) (.slice A' n' c')) G'/\KpC b qs j w (w'.setCell (f_ b j) (.slice A' n' c')):=by
 have A5:(genT N F pv qs)[j]?=some (.sl [.num])/\cu_ j=some 3/\genK N j=N+1/\j≠1/\j≠9:=by rcases hj with rfl | rfl <;> exact ⟨rfl,rfl,rfl,d_,d_⟩
 obtain ⟨e1,e2,e3,e4,e5⟩:=A5;obtain ⟨C,f,⟨A1,c1,h1⟩,⟨A9,c9,h9⟩,hx⟩:=h;obtain ⟨A2,n2,c2,g1,g2,_⟩:=f.own (i:=0) rfl e1 e2;rw [hc] at g1;injection g1 with g1;injection g1 with q1 q2 q3;subst q1 q2 q3;obtain ⟨G',f',u'⟩:=f.append (i:=0) rfl e1 e2 g2 (by rw [e3];exact hO) (by rw [e3];exact hn) hg hloc;have A4:j<(C b).length:=(e_ g2).1;have A0:(upd C b ((C b).set j (.slice A' n' c'))) b=(C b).set j (.slice A' n' c'):=upd_same _ _ _;have A3:genV b N F (upv pv j n') qs=genV b N F pv qs:=by
  unfold genV genT upv;have:(0:Nat)≠j:=by rcases hj with rfl | rfl <;> decide
  rw [if_neg this]
 refine ⟨G',⟨_,by rw [A3];exact f'.root,⟨A1,c1,by rw [A0,gs_,if_neg e4];exact h1⟩,⟨A9,c9,by rw [A0,gs_,if_neg e5];exact h9⟩,?_⟩,u',GC.kpc_of rfl f f' (fun k hk=>ad_ _ _ hk) (fun i hi=>by rw [A0,gs_,if_neg (fun e=>hi e.symm)])⟩;rw [A0];obtain ⟨⟨B3,b3,m3,a1,a2⟩,B4,b4,m4,b1,b2⟩:=hx;rcases hj with rfl | rfl
 ·exact ⟨⟨A',c',n',by rw [gs_,if_pos rfl,if_pos A4],by simp [upv]⟩,B4,b4,m4,by rw [gs_,if_neg d_];exact b1,by simp [upv];exact b2⟩
 exact ⟨⟨B3,b3,m3,by rw [gs_,if_neg d_];exact a1,by simp [upv];exact a2⟩,A',c',n',by rw [gs_,if_pos rfl,if_pos A4],by simp [upv]⟩
theorem GC.start (w:World) (b F:Nat) (hb:b=w) (PA:OA) (pn pc:Nat) (ty:TypeId):∃ G,GC b F (fun i=>if i=0 then .slice PA pn pc else i_ 0) [] 0 0 0 G (w.alloc (.cells #[.slice PA pn pc,.slice none 0 0,i_ 0,.slice none 0 0,.slice none 0 0,.slice none 0 0,.slice none 0 0,i_ 0,i_ 0,.slice none 0 0] ty))/\Up w (fun _=>False) (w.alloc (.cells #[.slice PA pn pc,.slice none 0 0,i_ 0,.slice none 0 0,.slice none 0 0,.slice none 0 0,.slice none 0 0,i_ 0,i_ 0,.slice none 0 0] ty)) G:=by
 subst hb;have f0:=Fr.nil (X:=fun _=>False) (w:=w) (fun _ h=>h.elim) (fun _=>False) (fun _=>[]);obtain ⟨G,f,u⟩:=f0.add (genK 0) (genT 0 F (fun i=>if i=0 then .slice PA pn pc else i_ 0) []) cu_ [.slice PA pn pc,.slice none 0 0,i_ 0,.slice none 0 0,.slice none 0 0,.slice none 0 0,.slice none 0 0,i_ 0,i_ 0,.slice none 0 0] ty rfl (fun j t hj=>by
  have A1:j<10:=(e_ hj).1
  match j,A1,hj with
  | 0,_,hj=>injection hj with hj;subst hj;exact ⟨_,rfl,.inl ⟨rfl,.sat _ _ rfl rfl⟩⟩
  | 1,_,hj=>injection hj with hj;subst hj;exact ⟨_,rfl,.inr ⟨_,_,rfl,rfl,rfl⟩⟩
  | 2,_,hj=>injection hj with hj;subst hj;exact ⟨_,rfl,.inl ⟨rfl,.num _⟩⟩
  | 3,_,hj=>injection hj with hj;subst hj;exact ⟨_,rfl,.inr ⟨_,_,rfl,rfl,rfl⟩⟩
  | 4,_,hj=>injection hj with hj;subst hj;exact ⟨_,rfl,.inr ⟨_,_,rfl,rfl,rfl⟩⟩
  | 5,_,hj=>injection hj with hj;subst hj;exact ⟨_,rfl,.inr ⟨_,_,rfl,rfl,rfl⟩⟩
  | 6,_,hj=>injection hj with hj;subst hj;exact ⟨_,rfl,.inl ⟨rfl,.nil _⟩⟩
  | 7,_,hj=>injection hj with hj;subst hj;exact ⟨_,rfl,.inl ⟨rfl,.num _⟩⟩
  | 8,_,hj=>injection hj with hj;subst hj;exact ⟨_,rfl,.inl ⟨rfl,.num _⟩⟩
  | 9,_,hj=>injection hj with hj;subst hj;exact ⟨_,rfl,.inr ⟨_,_,rfl,rfl,rfl⟩⟩)
 have A0:(upd (fun _=>[]) w [.slice PA pn pc,.slice none 0 0,i_ 0,.slice none 0 0,.slice none 0 0,.slice none 0 0,.slice none 0 0,i_ 0,i_ 0,.slice none 0 0]) (w:Nat)=([.slice PA pn pc,.slice none 0 0,i_ 0,.slice none 0 0,.slice none 0 0,.slice none 0 0,.slice none 0 0,i_ 0,i_ 0,.slice none 0 0]:VL):=upd_same _ _ _;exact ⟨G,⟨_,f.root,⟨none,0,by rw [A0];rfl⟩,⟨none,0,by rw [A0];rfl⟩,⟨none,0,0,by rw [A0];rfl,rfl⟩,none,0,0,by rw [A0];rfl,rfl⟩,u⟩
end
end Go.Proofs.YtfolidlmgfhkiaaGreat
namespace Go.Proofs.YtfolidlmgfhkiaaGreat
open Go.RowKit Go.Proofs.Tryz
def isStr:Value->Bool
 | .string _=>true
 | _=>false
theorem strs_at {cs:Array Value} (h:cs.toList.all isStr=true) (k:Nat) (hk:k<cs.size):∃ s,cs[k]?=some (.string s):=by
 have hm:cs[k] ∈ cs.toList:=by simp
 have:=List.all_eq_true.1 h _ hm;rw [Array.getElem?_eq_getElem hk];cases hv:cs[k] <;> rw [hv] at this <;> first | exact ⟨_,rfl⟩ | cases this
theorem reserved_any (s:ByteArray) (w:World):Calls prog 201 #[.string s] w fun e w'=>RB e/\Below w w w':=by
 go_enter func201,ntmps201;go_upto_region 2 with fail;go_loopw [9] (fun i wr=>∃ k:Nat,k<=19/\i=i_ k/\Hid (Below w w wr)/\(w:Nat)<wr/\Hid (∀ k:Nat,k<19->∃ s,wr.cell? (f_ w k)=some (.string s))) (fun i _=>19 - (intOf i).toNat)
 case atStart=>exact ⟨0,o_,rfl,q_ (bel (b_)),by simp,q_ (fun k hk=>by rw [aj_ _ _ _ _ _ rfl];exact strs_at rfl k hk)⟩
 obtain ⟨k,hk,rfl,HB,hz,HC⟩:=hrel;by_cases hlt:k<19
 ·have A0:(k:Int)<19:=by omega
  obtain ⟨t,ht⟩:=HC.o k hlt;go_wp2;all_goals first
   | (go_ret;exact ⟨⟨_,rfl⟩,HB.o⟩)
   | (go_roundw
      case rel=>exact ⟨k+1,o_,by go_num,HB,hz,HC⟩
      case measure=>simp [intOf];omega)
 have A0:¬(k:Int)<19:=by omega
 go_wp2_with (go_at_call 207;refine (Op_any _ _).mono ?_;rintro e w1 ⟨⟨q,b,rfl⟩,hb⟩;have A1:=q_ (HB.o.trans (hb.mono HB.o.size)));go_ret;exact ⟨⟨_,rfl⟩,A1.o⟩
theorem Has_any (A:OA) (n c:Nat) (s:ByteArray) (X:NP) (K:Nat) (w:World) (h:SlT w X K [.txt] A n c) (hK:K<=900000000):Calls prog 161 #[.slice A n c,.string s] w fun e w'=>RB e/\Below w w w':=by
 have hn:=h.le;have H:=q_ h;clear h;go_enter func161,ntmps161;go_upto_region 2 with fail;go_loopw [9] (fun i wr=>∃ k:Nat,k<=n/\i=i_ k/\Hid (wr=w)) (fun i _=>n - (intOf i).toNat)
 case atStart=>exact ⟨0,o_,rfl,q_ rfl⟩
 obtain ⟨k,hk,rfl,A1⟩:=hrel;have hw:=A1.o.symm;subst hw;clear A1;by_cases hlt:k<n
 ·have A0:(k:Int)<(n:Int):=by omega
  obtain ⟨g,o,rfl,hg,hX,vs,hv,hm⟩:=H.o.mt hlt;obtain ⟨u,hu,ht⟩:=hv.2 0 .txt rfl;obtain ⟨t,rfl⟩:=ht.str;have c0:w.cell? ⟨g,o+k,none⟩=some (.string t):=by have:=hm 0 _ hu;simpa using this
  clear hv hm hu ht;go_wp2;all_goals first
   | (go_ret;exact ⟨⟨_,rfl⟩,(bel (b_))⟩)
   | (go_roundw
      case rel=>exact ⟨k+1,o_,by go_num,q_ (by trivial)⟩
      case measure=>simp [intOf];omega)
 have A0:¬(k:Int)<(n:Int):=by omega
 go_wp2;go_ret;exact ⟨⟨_,rfl⟩,(bel (b_))⟩
theorem Name05_any (s:ByteArray) (w:World) (hsz:s.size<=100):Calls prog 186 #[.string s] w fun e w'=>RB e/\Below w w w':=by
 go_enter func186,ntmps186;go_upto_region 2 with fail;go_loopw [3] (fun i wr=>∃ k:Nat,k<=s.size/\i=i_ k/\Hid (wr=w)) (fun i _=>s.size - (intOf i).toNat)
 case atStart=>exact ⟨0,o_,rfl,q_ rfl⟩
 obtain ⟨k,hk,rfl,A1⟩:=hrel;have hw:=A1.o.symm;subst hw;clear A1;by_cases hlt:k<s.size
 ·have A0:(k:Int)<(s.size:Int):=by omega
  go_wp2;all_goals first
   | (go_ret;exact ⟨⟨_,rfl⟩,(bel (b_))⟩)
   | (go_roundw
      case rel=>exact ⟨k+1,o_,by go_num,q_ (by trivial)⟩
      case measure=>simp [intOf];omega)
 have A0:¬(k:Int)<(s.size:Int):=by omega
 go_wp2_with (go_at_call 201;refine (reserved_any _ _).mono ?_;rintro e w1 ⟨⟨b,rfl⟩,hb⟩;have A2:=q_ hb);all_goals
  go_ret;first | exact ⟨⟨_,rfl⟩,A2.o⟩ | exact ⟨⟨_,rfl⟩,(bel (b_))⟩
theorem results_tmp8 {P:Program} {fn:Func} {t1 t2 t3 t4 t5 t6 t7 t8:Tmp} (h:fn.results=#[.tmp t1,.tmp t2,.tmp t3,.tmp t4,.tmp t5,.tmp t6,.tmp t7,.tmp t8]) (tmps:Array Value) (w:World) :
  (results fn tmps).run P w=.ok (.tuple #[tmps.getD t1 undef,tmps.getD t2 undef,tmps.getD t3 undef,tmps.getD t4 undef,tmps.getD t5 undef,tmps.getD t6 undef,tmps.getD t7 undef,tmps.getD t8 undef]) w:=by
 simp [results,h]
def RPt (e:Ending):Prop:=∃ (m:Int) (a b c d f g k:Bool),e=.returned (.tuple #[i_ m,.bool a,.bool b,.bool c,.bool d,.bool f,.bool g,.bool k])
theorem parts_any (kd:Int) (w:World):Calls prog 203 #[i_ kd] w fun e w'=>RPt e/\Below w w w':=by
 go_enter func203,ntmps203;go_wp2;all_goals
  try simp only [Exit.inBlock,Exit.then]
  refine bodyPost_ret (results_tmp8 (by rfl) _ _) rfl ?_;exact ⟨⟨_,_,_,_,_,_,_,_,rfl⟩,(bel (b_))⟩
theorem Names_any (kd:Int) (w:World):Calls prog 189 #[i_ kd] w fun e w'=>RB e/\Below w w w':=by
 go_enter func189,ntmps189;go_wp2_with (go_at_call 203;refine (parts_any _ _).mono ?_;rintro e w1 ⟨⟨m,a,b,c,d,f,g,k,rfl⟩,hb⟩;have A0:=q_ hb);go_ret;exact ⟨⟨_,rfl⟩,A0.o⟩
end Go.Proofs.YtfolidlmgfhkiaaGreat
