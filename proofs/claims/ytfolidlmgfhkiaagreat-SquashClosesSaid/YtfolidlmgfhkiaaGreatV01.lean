/- Lemmas on functions of the program, under the conditions that each states. -/
import Derived.Test.YtfolidlmgfhkiaaGreatV00
import Derived.ProofKit
import Derived.Deep.Slices
import Derived.Deep.Fields
import Derived.ChangeSame
import Derived.Deep.RegionHeld3
import Derived.Deep.MidRow
import Derived.Deep.DeepCutAuto
import Derived.Deep.CutBlock
import Derived.Deep.LoopGhost
import Derived.Deep.RegionWith
import Derived.Shelf.SlicesE.Kit
import Derived.Laws.StructEq
import Derived.Orders
set_option linter.unusedVariables false
set_option linter.unusedSimpArgs false
set_option maxRecDepth 100000
set_option maxHeartbeats 4000000
namespace Go.Proofs.YtfolidlmgfhkiaaGreat
open Go.RowKit
inductive CT where
 | num | tru | txt
 | sl (e:List CT)
 | lst (p:VL->Prop) (e:List CT)
 | sat (p:Value->Prop)
inductive VT (w:World) (X:NP) (K:Nat):CT->Value->Prop
 | num (n:Int):VT w X K .num (.int .i64 n)
 | tru (x:Bool):VT w X K .tru (.bool x)
 | txt (x:ByteArray):VT w X K .txt (.string x)
 | nil (e:List CT):VT w X K (.sl e) (.slice none 0 0)
 | sl (e:List CT) (g o n c:Nat) (f:Nat->Nat->Value) (hg:g<w) (hX:¬X g) (hn:n<=K) (hc:n<=c) (hm:c<=9223372036854775807)
   (hf:∀ k j t,k<n->e[j]?=some t->w.cell? ⟨g,o+(k*e.length+j),none⟩=some (f k j))
   (ht:∀ k j t,k<n->e[j]?=some t->VT w X K t (f k j)):VT w X K (.sl e) (.slice (some (f_ g o)) n c)
 | sat (p:Value->Prop) (v:Value) (h:v.oneCell'=true) (hp:p v):VT w X K (.sat p) v
 | lnil (p:VL->Prop) (e:List CT):VT w X K (.lst p e) (.slice none 0 0)
 | lst (p:VL->Prop) (e:List CT) (g o n c:Nat) (f:Nat->Nat->Value) (hg:g<w) (hX:¬X g) (hn:n<=K) (hc:n<=c) (hm:c<=9223372036854775807)
   (hf:∀ k j t,k<n->e[j]?=some t->w.cell? ⟨g,o+(k*e.length+j),none⟩=some (f k j))
   (ht:∀ k j t,k<n->e[j]?=some t->VT w X K t (f k j)) (hp:∀ k,k<n->p ((List.range e.length).map (f k))):VT w X K (.lst p e) (.slice (some (f_ g o)) n c)
structure Kp (X:NP) (w w':World):Prop where
 os:w'.os=w.os
 tape:w'.tape=w.tape
 output:w'.output=w.output
 size:(w:Nat)<=w'
 block:∀ k,k<w.heap.size->¬X k->w'.heap[k]?=w.heap[k]?
section
variable {X Y:NP} {w w' w2:World} {K K':Nat} {t:CT} {v:Value}
theorem Kp.refl (X:NP) (w:World):Kp X w w:=⟨rfl,rfl,rfl,l_,fun _ _ _=>rfl⟩
theorem Kp.trans (h:Kp X w w') (h2:Kp X w' w2):Kp X w w2:=⟨h2.os.trans h.os,h2.tape.trans h.tape,h2.output.trans h.output,Nat.le_trans h.size h2.size,fun k hk hx=>(h2.block k (lt_ hk h.size) hx).trans (h.block k hk hx)⟩
theorem Kp.mono (h:Kp X w w') (hXY:∀ k,k<w.heap.size->X k->Y k):Kp Y w w':=⟨h.os,h.tape,h.output,h.size,fun k hk hx=>h.block k hk (fun hX=>hx (hXY k hk hX))⟩
theorem Kp.of_below (h:Below w.heap.size w w'):Kp X w w':=⟨h.os,h.tape,h.output,h.size,fun k hk _=>h.block k hk⟩
theorem Kp.below (h:Kp X w w') {B:Nat} (hB:B<=w.heap.size) (hX:∀ k,k<B->¬X k):Below B w w':=⟨h.os,h.tape,h.output,h.size,fun k hk=>h.block k (lt_ hk hB) (hX k hk)⟩
theorem Kp.drew (h:Kp X w w'):Kp X w w'.drew:=⟨h.os,h.tape,h.output,h.size,h.block⟩
theorem Kp.drewN (h:Kp X w w') (m:Nat):Kp X w (w'.drewN m):=⟨h.os,h.tape,h.output,h.size,h.block⟩
theorem Kp.alloc (h:Kp X w w') (o:Obj):Kp X w (w'.alloc o):=h.trans ⟨rfl,rfl,rfl,zj_,fun k hk _=>Below.heap_alloc _ _ _ hk⟩
theorem Kp.setCell (h:Kp X w w') {p:Addr} (hp:X p.block\/w.heap.size<=p.block) (u:Value):Kp X w (w'.setCell p u) :=
 ⟨h.os,h.tape,h.output,by simpa [World.setCell] using h.size,fun k hk hx=>(Below.heap_setCell _ _ _ _ (fun e=>by subst e;rcases hp with hp | hp;exact hx hp;omega)).trans (h.block k hk hx)⟩
theorem Kp.grown {row:Option Nat} (h:Kp X w w') (hg:w'.grownBy w2 row) (hr:∀ k,row=some k->X k\/w.heap.size<=k):Kp X w w2 :=
 ⟨hg.os.trans h.os,hg.tape.trans h.tape,hg.output.trans h.output,Nat.le_trans h.size hg.size,fun k hk hx=>(hg.block k (lt_ hk h.size) (fun e=>by rcases hr k e.symm with hq | hq;exact hx hq;omega)).trans (h.block k hk hx)⟩
theorem Kp.bb_ (h:Kp X w w') (h2:Below w'.heap.size w' w2):Kp X w w2:=h.trans (.of_below h2)
theorem Kp.cell (h:Kp X w w') {b o:Nat} (hb:b<w.heap.size) (hx:¬X b):w'.cell? (f_ b o)=w.cell? (f_ b o):=World.cell?_of_block (w:=w) (h.block b hb hx)
theorem Kp.frozen (h:Kp X w w') {b o:Nat} (hb:b<w.heap.size) (hx:¬X b):w'.frozen? (f_ b o)=w.frozen? (f_ b o):=World.frozen?_of_block (w:=w) (h.block b hb hx)
theorem VT.kept (h:VT w X K t v) (hk:Kp X w w') (hXY:∀ k,k<w.heap.size->¬X k->¬Y k) (hK:K<=K'):VT w' Y K' t v:=by
 induction h with
 | num n=>exact .num n
 | tru x=>exact .tru x
 | txt x=>exact .txt x
 | nil e=>exact .nil e
 | sl e g o n c f hg hX hn hc hm hf ht ih =>
  exact .sl e g o n c f (lt_ hg hk.size) (hXY g hg hX) (Nat.le_trans hn hK) hc hm (fun k j t A0 hj=>(hk.cell hg hX).trans (hf k j t A0 hj)) ih
 | sat p v h hp=>exact .sat p v h hp
 | lnil p e=>exact .lnil p e
 | lst p e g o n c f hg hX hn hc hm hf ht hp ih =>
  exact .lst p e g o n c f (lt_ hg hk.size) (hXY g hg hX) (Nat.le_trans hn hK) hc hm (fun k j t A0 hj=>(hk.cell hg hX).trans (hf k j t A0 hj)) ih hp
theorem VT.up (h:VT w X K t v) (hk:Kp X w w') (hK:K<=K'):VT w' X K' t v:=h.kept hk (fun _ _ h=>h) hK
theorem VT.less (h:VT w X K t v) (hXY:∀ k,k<w.heap.size->Y k->X k):VT w Y K t v:=h.kept (Kp.refl _ _) (fun k hk hx hy=>hx (hXY k hk hy)) (l_)
theorem VT.int (h:VT w X K .num v):∃ n,v=i_ n:=by cases h;exact ⟨_,rfl⟩
theorem VT.bool (h:VT w X K .tru v):∃ x,v=.bool x:=by cases h;exact ⟨_,rfl⟩
theorem VT.str (h:VT w X K .txt v):∃ x,v=.string x:=by cases h;exact ⟨_,rfl⟩
structure SlT (w:World) (X:NP) (K:Nat) (e:List CT) (A:OA) (n c:Nat):Prop where
 le:n<=K
 cap:n<=c
 max:c<=9223372036854775807
 nul:A=none->n=0/\c=0
 at_:∀ ad,A=some ad->∃ g o,ad=(f_ g o)/\g<w/\¬X g/\∃ f:Nat->Nat->Value,(∀ k j t,k<n->e[j]?=some t->w.cell? ⟨g,o+(k*e.length+j),none⟩=some (f k j))/\(∀ k j t,k<n->e[j]?=some t->VT w X K t (f k j))
theorem VT.slice {e:List CT} (h:VT w X K (.sl e) v):∃ A n c,v=.slice A n c/\SlT w X K e A n c:=by
 cases h with
 | nil=>exact ⟨none,0,0,rfl,Nat.zero_le _,l_,o_,fun _=>⟨rfl,rfl⟩,fun _ h=>by cases h⟩
 | sl _ g o n c f hg hX hn hc hm hf ht=>exact ⟨_,n,c,rfl,hn,hc,hm,x_,(fun ad h=>by injection h with h;exact ⟨g,o,h.symm,hg,hX,f,hf,ht⟩)⟩
theorem SlT.vt {e:List CT} {A:OA} {n c:Nat} (h:SlT w X K e A n c):VT w X K (.sl e) (.slice A n c):=by
 cases A with
 | none=>obtain ⟨rfl,rfl⟩:=h.nul rfl;exact .nil e
 | some ad =>
  obtain ⟨g,o,rfl,hg,hX,f,hf,ht⟩:=h.at_ _ rfl;exact .sl e g o n c f hg hX h.le h.cap h.max hf ht
theorem SlT.up {e:List CT} {A:OA} {n c:Nat} (h:SlT w X K e A n c) (hk:Kp X w w') (hK:K<=K'):SlT w' X K' e A n c:=by
 obtain ⟨A',n',c',e',h'⟩:=(h.vt.up hk hK).slice;exact v0_
theorem SlT.kept {e:List CT} {A:OA} {n c:Nat} (h:SlT w X K e A n c) (hk:Kp X w w') (hXY:∀ k,k<w.heap.size->¬X k->¬Y k) (hK:K<=K'):SlT w' Y K' e A n c:=by
 obtain ⟨A',n',c',e',h'⟩:=(h.vt.kept hk hXY hK).slice;exact v0_
theorem SlT.el {e:List CT} {A:OA} {n c k:Nat} (h:SlT w X K e A n c) (hk:k<n):∃ g o,A=some (f_ g o)/\g<w/\¬X g/\∃ f:Nat->Value,(∀ j t,e[j]?=some t->w.cell? ⟨g,o+(k*e.length+j),none⟩=some (f j))/\(∀ j t,e[j]?=some t->VT w X K t (f j)):=by
 cases A with
 | none=>have:=(h.nul rfl).1;omega
 | some ad =>
  obtain ⟨g,o,rfl,hg,hX,f,hf,ht⟩:=h.at_ _ rfl;exact ⟨g,o,rfl,hg,hX,f k,fun j t hj=>hf k j t hk hj,fun j t hj=>ht k j t hk hj⟩
def VTs (w:World) (X:NP) (K:Nat) (ts:List CT) (vs:VL):Prop:=vs.length=ts.length/\∀ (j:Nat) (t:CT),ts[j]?=some t->∃ u,vs[j]?=some u/\VT w X K t u
theorem VTs.kept {ts:List CT} {vs:VL} (h:VTs w X K ts vs) (hk:Kp X w w') (hXY:∀ k,k<w.heap.size->¬X k->¬Y k) (hK:K<=K'):VTs w' Y K' ts vs:=⟨h.1,fun j t hj=>by obtain ⟨u,hu,hv⟩:=h.2 j t hj;exact ⟨u,hu,hv.kept hk hXY hK⟩⟩
theorem VTs.up {ts:List CT} {vs:VL} (h:VTs w X K ts vs) (hk:Kp X w w') (hK:K<=K'):VTs w' X K' ts vs:=h.kept hk (fun _ _ h=>h) hK
theorem VTs.less {ts:List CT} {vs:VL} (h:VTs w X K ts vs) (hXY:∀ k,k<w.heap.size->Y k->X k):VTs w Y K ts vs:=⟨h.1,fun j t hj=>by obtain ⟨u,hu,hv⟩:=h.2 j t hj;exact ⟨u,hu,hv.less hXY⟩⟩
theorem VTs.nil:VTs w X K [] []:=⟨rfl,fun j t h=>by simp at h⟩
theorem VTs.cons {ts:List CT} {vs:VL} (h:VT w X K t v) (hs:VTs w X K ts vs):VTs w X K (t :: ts) (v :: vs):=⟨by simp [hs.1],fun j u hj=>by
 match j,hj with
 | 0,hj=>simp at hj;subst hj;exact ⟨v,rfl,h⟩
 | j+1,hj=>exact hs.2 j u (by simpa using hj)⟩
theorem VTs.head {ts:List CT} {vs:VL} (h:VTs w X K (t :: ts) vs):∃ v us,vs=v :: us/\VT w X K t v/\VTs w X K ts us:=by
 cases vs with
 | nil=>have:=h.1;simp at this
 | cons v us =>
  obtain ⟨u,hu,hv⟩:=h.2 0 t rfl;simp at hu;subst hu;exact ⟨v,us,rfl,hv,by have:=h.1;simpa using this,fun j s hj=>h.2 (j+1) s hj⟩
theorem VTs.end {vs:VL} (h:VTs w X K [] vs):vs=[]:=List.eq_nil_of_length_eq_zero h.1
theorem VT.one (h:VT w X K t v):v.oneCell'=true:=by cases h <;> first | assumption | rfl
theorem VTs.one {ts:List CT} {vs:VL} (h:VTs w X K ts vs):∀ u ∈ vs,u.oneCell'=true:=fun u hu=>by
 obtain ⟨j,hj⟩:=List.getElem?_of_mem hu;have hl:=(e_ hj).1;obtain ⟨u',A0,hv⟩:=h.2 j _ (ge_ (by rw [<-h.1];exact hl));rw [hj] at A0;injection A0 with A0;subst A0;exact hv.one
theorem VTs.set {ts:List CT} {vs:VL} (h:VTs w X K ts vs) {j:Nat} (hj:ts[j]?=some t) (hv:VT w X K t v):VTs w X K ts (vs.set j v):=⟨by simp [h.1],fun i s hi=>by
 by_cases hij:j=i
 ·subst hij
  rw [hj] at hi;injection hi with hi;subst hi
  obtain ⟨u,hu,_⟩:=h.2 j t hj
  exact ⟨v,by rw [gs_,if_pos rfl,if_pos (e_ hu).1],hv⟩
 obtain ⟨u,hu,A0⟩:=h.2 i s hi
 exact ⟨u,by rw [gs_,if_neg hij];exact hu,A0⟩⟩
def MT (w:World) (X:NP) (K:Nat) (g o:Nat) (ts:List CT):Prop:=∃ vs,VTs w X K ts vs/\∀ (j:Nat) (u:Value),vs[j]?=some u->w.cell? ⟨g,o+j,none⟩=some u
theorem SlT.mt {e:List CT} {A:OA} {n c k:Nat} (h:SlT w X K e A n c) (hk:k<n):∃ g o,A=some (f_ g o)/\g<w/\¬X g/\MT w X K g (o+k*e.length) e:=by
 obtain ⟨g,o,hA,hg,hX,f,hf,ht⟩:=h.el hk;refine ⟨g,o,hA,hg,hX,(List.range e.length).map f,⟨zj_,fun j t hj=>⟨f j,?_,ht j t hj⟩⟩,fun j u hu=>?_⟩
 ·have:j<e.length:=(e_ hj).1;simp [this]
 have hj:j<e.length:=by have:=(e_ hu).1;simpa using this
 simp [hj] at hu;subst hu;rw [Nat.add_assoc];exact hf j _ (ge_ hj)
theorem MT.set {g o j:Nat} {ts:List CT} (h:MT w X K g o ts) (hx:X g) (hj:ts[j]?=some t) (hv:VT w X K t v):MT (w.setCell ⟨g,o+j,none⟩ v) X K g o ts:=by
 obtain ⟨vs,A1,hm⟩:=h;have hk:Kp X w (w.setCell ⟨g,o+j,none⟩ v):=(Kp.refl X w).setCell (.inl hx) v;refine ⟨vs.set j v,(A1.set hj hv).up hk (l_),fun i u hu=>?_⟩;obtain ⟨u0,A0,_⟩:=A1.2 j t hj;rw [gs_] at hu;by_cases hij:j=i
 ·subst hij;rw [if_pos rfl,if_pos (e_ A0).1] at hu;injection hu with hu;subst hu;exact World.cell?_setCell_same _ _ _ (hm j u0 A0)
 rw [if_neg hij] at hu;rw [bh_ _ _ _ _ zm_];exact hm i u hu
theorem SlT.da_ {base:Nat} {et:TypeId} {e:List CT} {A:OA} {n c:Nat} {xs:VL} (ho:w.ownsRow base et e.length (.slice A n c) n xs) (hb:∀ k,X k->k<base) (hn:n<=K)
  (hx:∀ k j t,k<n->e[j]?=some t->∃ u,xs[k*e.length+j]?=some u/\VT w X K t u):SlT w X K e A n c:=by
 refine ⟨hn,(dk_ ho).1,own_cap ho,fun hA=>?_,fun ad hA=>?_⟩
 ·have h1:=(own_src ho).1 hA;exact ⟨h1,(dk_ ho).2 hA⟩
 subst hA;have A0:=(own_src ho).2 ad rfl;rcases ho.2 with ⟨h',_⟩ | ⟨g,cap,cur,h',hbg,hg,_⟩
 ·cases h'
 injection h' with h1 _ _;injection h1 with h1;subst h1;refine ⟨g,0,rfl,?_,fun A1=>by have:=hb g A1;omega,fun k j=>xs.getD (k*e.length+j) undef,fun k j t hk hj=>?_,fun k j t hk hj=>?_⟩
 ·rcases Nat.lt_or_ge g w with h2 | h2
  ·exact h2
  rw [Array.getElem?_eq_none h2] at hg;cases hg
 ·obtain ⟨u,hu,_⟩:=hx k j t hk hj;have:=A0 _ u hu;rw [Addr.add_lit] at this;show _=some (xs.getD (k*e.length+j) undef)
  rw [this,List.getD_eq_getElem?_getD,hu];rfl
 obtain ⟨u,hu,hv⟩:=hx k j t hk hj;show VT w X K t (xs.getD (k*e.length+j) undef)
 rw [List.getD_eq_getElem?_getD,hu];exact hv
end
section
variable {P:Program} {ops:Array Oper} {Q:Exit->Act->World->Prop} {md:Region.Mode} {S:World->Prop} {st:Nat}
def anyB (P:Program) (md:Region.Mode) (ops:Array Oper) (Q:Exit->Act->World->Prop) (S:World->Prop) (st:Nat):Nat->Array Bool->Act->World->Prop
 | 0=>fun done a w=>Region.ready md ops done=[]/\Q .normal a w
 | n+1=>fun done a w=>(Region.ready md ops done=[]->Q .normal a w) ∧
   ∀ j,j ∈ Region.ready md ops done->wpOp P ops Q j (fun a1 w1=>((done.setIfInBounds j true).getD st true=false->S w1)/\anyB P md ops Q S st n (done.setIfInBounds j true) a1 w1) a w
theorem any_of_B:∀ (n:Nat) {done:Array Bool} {a:Act} {w:World},anyB P md ops Q S st n done a w->wpAny P md ops Q n done a w
 | 0,_,_,_,h=>h
 | n+1,_,_,_,h=>⟨h.1,fun j hj=>wpOp_mono (fun _ _ k=>any_of_B n k.2) (h.2 j hj)⟩
theorem firstB {i:Nat} {oi:Oper} {v:Value} (hi:ops[i]?=some oi) (hsel:∀ (j:Nat) (o:Oper) cs b,ops[j]?=some o->o.op≠.select cs b)
  (hQ:∀ c a w,Q (.panic c) (a.put oi.dst v) w->Q (.panic c) a w) (hst:∀ o,ops[st]?=some o->∃ e ∈ o.after,Region.binds md e=true/\e.on=i) (hne:i≠st) (n:Nat) :
  ∀ {done:Array Bool} {a:Act} {w:World},(∀ (j:Nat) (oj:Oper),ops[j]?=some oj->j≠i->done.getD j true=false->(∀ e ∈ oj.after,Region.binds md e=true->e.on≠i)->oi.apart ops oj=true) →
   i ∈ Region.ready md ops done->YieldsIf P ops S oi v a->done.getD st true=false->S w->anyB P md ops Q S st n (done.setIfInBounds i true) (a.put oi.dst v) w->anyB P md ops Q S st (n+1) done a w:=by
 induction n with
 | zero =>
  intro done a w _ hr hy hd hS H;refine ⟨fun h=>(by rw [h] at hr;cases hr),fun j hj=>?_⟩;rcases Nat.decEq j i with hji | hji
  ·have h:=ready_mono hj hji;rw [H.1] at h;cases h
  subst hji;exact hy.wpOp hi hS ⟨fun _=>hS,H⟩
 | succ n ih =>
  intro done a w A0 hr hy hd hS H;refine ⟨fun h=>(by rw [h] at hr;cases hr),fun j hj=>?_⟩;rcases Nat.decEq j i with hji | hji
  ·obtain ⟨A4,oj,A1,hw⟩:=mem_ready.1 hj;have A2:=(mem_ready.1 hr).1;have A9:i<done.size:=by
    rcases Nat.lt_or_ge i done.size with h | h
    ·exact h
    simp [Array.getElem?_eq_none h] at A2
   have A6:∀ e ∈ oj.after,Region.binds md e=true->e.on≠i:=fun e he hb e1=>by
    have h1:=hw e he hb;rw [e1] at h1;simp [A9] at h1 A2;rw [A2] at h1;cases h1
   have A5:j≠st:=fun e=>by
    subst e;obtain ⟨e,he,hb,e1⟩:=hst oj A1;exact A6 e he hb e1
   have A8:(done.setIfInBounds j true).getD st true=false:=by rw [getD_set_ne true A5];exact hd
   have A3:((done.setIfInBounds i true).setIfInBounds j true).getD st true=false:=by rw [getD_set_ne true A5,getD_set_ne true hne];exact hd
   refine wpOp_mono (fun a1 w1 k=>⟨fun _=>k.2.1 A3,ih (done:=done.setIfInBounds j true) (fun q oq hq Aa A7 Ab=>?_) (ready_mono hr (Ne.symm hji)) k.1 A8 (k.2.1 A3) ?_⟩)
    (wpOp_putIf A1 (A0 j oj A1 hji A4 A6) (fun cs b=>hsel i oi cs b hi) (fun cs b=>hsel j oj cs b A1) hQ hy (H.2 j (ready_mono hj hji)))
   ·refine A0 q oq hq Aa ?_ Ab;rcases Nat.decEq j q with hjq | hjq
    ·rw [getD_set_ne true hjq] at A7;exact A7
    subst hjq;exact A4
   rw [Array.setIfInBounds_comm _ _ hji];exact k.2.2
  subst hji;exact hy.wpOp hi hS ⟨fun _=>hS,H⟩
theorem takeB (i:Nat) (d:Option Tmp) (v:Value) {oi:Oper} {n:Nat} {done:Array Bool} {a:Act} {w:World} (hi:ops[i]?=some oi) (hd:oi.dst=d) (hs:Region.noSelect ops=true) (hf:Region.free md ops done i=true)
  (hr:(Region.ready md ops done).contains i=true) (hst:((ops[st]?.map fun o=>o.after.any fun e=>Region.binds md e && e.on == i) == some true)=true) (hne:i≠st) (hds:done.getD st true=false) (hQ:∀ c a w,Q (.panic c) (a.put oi.dst v) w->Q (.panic c) a w) (hy:YieldsIf P ops S oi v a) (hS:S w)
  (h:anyB P md ops Q S st n (done.setIfInBounds i true) (a.put d v) w):anyB P md ops Q S st (n+1) done a w:=by
 subst hd;refine firstB hi (Region.noSelect_spec hs) hQ (fun o ho=>?_) hne n (Region.free_spec hi hf) (by simpa using hr) hy hds hS h;rw [ho] at hst;simp only [Option.map_some,beq_iff_eq,Option.some.injEq,Array.any_eq_true'] at hst;obtain ⟨e,he,hb⟩:=hst;simp only [Bool.and_eq_true,beq_iff_eq] at hb;exact ⟨e,he,hb.1,hb.2⟩
theorem nextB (i:Nat) {oi:Oper} {n:Nat} {done:Array Bool} {a:Act} {w:World} (hr:Region.ready md ops done=[i]) (hi:ops[i]?=some oi)
  (h:∀ K':Act->World->Prop,Shut (∀ a w,S w->(S w->anyB P md ops Q S st n (done.setIfInBounds i true) a w)->K' a w)->if Region.wanted oi (yielded ops a.tmps)=true then Oper.wp P oi a w K' Q else K' (a.put oi.dst undef) w) :
  anyB P md ops Q S st (n+1) done a w :=
 ⟨fun e=>(by rw [hr] at e;cases e),fun j hj=>by
  rw [hr] at hj
  obtain rfl:=List.mem_singleton.1 hj
  exact wpOp_step hi fun K' hK=>h K' fun a w hS hW=>hK a w ⟨fun _=>hS,hW hS⟩⟩
theorem storeB (i:Nat) {oi:Oper} {n:Nat} {done:Array Bool} {a:Act} {w:World} (hr:Region.ready md ops done=[i]) (hi:ops[i]?=some oi) (hs:(done.setIfInBounds i true).getD st true=true)
  (h:∀ K':Act->World->Prop,Shut (∀ a w,anyB P md ops Q S st n (done.setIfInBounds i true) a w->K' a w)->if Region.wanted oi (yielded ops a.tmps)=true then Oper.wp P oi a w K' Q else K' (a.put oi.dst undef) w) :
  anyB P md ops Q S st (n+1) done a w :=
 ⟨fun e=>(by rw [hr] at e;cases e),fun j hj=>by
  rw [hr] at hj
  obtain rfl:=List.mem_singleton.1 hj
  exact wpOp_step hi fun K' hK=>h K' fun a w hW=>hK a w ⟨fun e=>(by rw [hs] at e;cases e),hW⟩⟩
theorem doneB {done:Array Bool} {a:Act} {w:World} (hr:Region.ready md ops done=[]) (h:Q .normal a w):∀ n,anyB P md ops Q S st n done a w
 | 0=>⟨hr,h⟩
 | _+1=>⟨fun _=>h,fun j hj=>by rw [hr] at hj;cases hj⟩
theorem regionB {id:Nat} {a:Act} {w:World} (hm:P.follows .mixedOrders=true) (hS:S w.drew)
  (h:S w.drew->anyB P .any ops Q S st ops.size (Array.replicate ops.size false) a w.drew):(Code.region id ops true).wp P Q a w :=
 wp_region_any hm (any_of_B _ (h hS))
end
end Go.Proofs.YtfolidlmgfhkiaaGreat
namespace Go.Proofs.YtfolidlmgfhkiaaGreat
open Go.RowKit Go.Proofs.Tryz
namespace SqCloC
theorem infoE:(prog.info? 87).map (fun i=>(i.zero,i.size,i.bytes))=some (some (.agg #[i_ 0,i_ 0,.bool false,i_ 0]),4,32):=by kernel_rfl
theorem any (A:OA) (n c:Nat) (xs:VL) (w:World) (hA:A=none->n=0) (hsrc:∀ ad,A=some ad->∀ (j:Nat) (u:Value),xs[j]?=some u->w.cell? (ad.add j)=some u)
  (hl:xs.length=n*4) (hn:n<=1000000) (h1:∀ u ∈ xs,u.oneCell'=true) :
  Calls prog 95 #[.slice A n c] w fun e w'=>∃ A' c',e=.returned (.slice A' n c')/\w'.ownsRow w 87 4 (.slice A' n c') n xs/\Below w w w':=by
 obtain ⟨i0,hi,A5,A6,A7⟩:=info_parts infoE;have HL:=q_ hl;clear hl;cases A with
 | none =>
  obtain rfl:=hA rfl;obtain rfl:xs=[]:=List.eq_nil_of_length_eq_zero x2_;have A2:=fun (w:World)=>Lib.run_eql_slice_nil (P:=prog) w 54 87 none 0 c 0 0 underlying54
  go_enter func95,ntmps95;exact v3_
 | some ad =>
  have HS:=q_ (hsrc ad rfl);clear hsrc hA;have A3:∀ (j:Nat) (u:Value),xs[j]?=some u->(w.alloc (.cells #[] 87)).cell? (ad.add j)=some u:=fun j u hu=>by
   exact vp_
  have A4:=q_ A3;clear A3;have A2:=fun (w:World)=>Lib.run_eql_slice_nil (P:=prog) w 54 87 (some ad) n c 0 0 underlying54
  go_enter func95,ntmps95;go_wp2_with (at_builtin;refine wpList_append_own _ rfl _ _ 54 rfl w 87 i0 _ 4 32 underlying54 hi A5 A6 A7 rfl d_ _ _ _ rfl (World.ownsRow_made w #[] 0 (l_) m_ rfl) ad n c xs rfl HL.o A4.o h1 m_ o_ t_ ?_;intro v' w1 A0 A1 _);go_ret;have hz:=A1.size;rw [Nat.zero_add,List.nil_append] at A0;have hb:Below w w w1:=((b_).alloc (l_) _).grown A1 t_ (fun k hk=>by injection hk with hk;subst hk;exact l_);rcases A0.2 with ⟨rfl,h0⟩ | ⟨g,cap,cur,rfl,_⟩
  ·exact u0_
  exact ⟨_,_,rfl,A0,hb⟩
end SqCloC
namespace SqCloD
theorem infoE:(prog.info? 174).map (fun i=>(i.zero,i.size,i.bytes))=some (some (.agg #[i_ 0,i_ 0,i_ 0,.bool false,i_ 0]),5,40):=by kernel_rfl
theorem any (A:OA) (n c:Nat) (xs:VL) (w:World) (hA:A=none->n=0) (hsrc:∀ ad,A=some ad->∀ (j:Nat) (u:Value),xs[j]?=some u->w.cell? (ad.add j)=some u)
  (hl:xs.length=n*5) (hn:n<=1000000) (h1:∀ u ∈ xs,u.oneCell'=true) :
  Calls prog 98 #[.slice A n c] w fun e w'=>∃ A' c',e=.returned (.slice A' n c')/\w'.ownsRow w 174 5 (.slice A' n c') n xs/\Below w w w':=by
 obtain ⟨i0,hi,A5,A6,A7⟩:=info_parts infoE;have HL:=q_ hl;clear hl;cases A with
 | none =>
  obtain rfl:=hA rfl;obtain rfl:xs=[]:=List.eq_nil_of_length_eq_zero x2_;have A2:=fun (w:World)=>Lib.run_eql_slice_nil (P:=prog) w 63 174 none 0 c 0 0 underlying63
  go_enter func98,ntmps98;exact v3_
 | some ad =>
  have HS:=q_ (hsrc ad rfl);clear hsrc hA;have A3:∀ (j:Nat) (u:Value),xs[j]?=some u->(w.alloc (.cells #[] 174)).cell? (ad.add j)=some u:=fun j u hu=>by
   exact vp_
  have A4:=q_ A3;clear A3;have A2:=fun (w:World)=>Lib.run_eql_slice_nil (P:=prog) w 63 174 (some ad) n c 0 0 underlying63
  go_enter func98,ntmps98;go_wp2_with (at_builtin;refine wpList_append_own _ rfl _ _ 63 rfl w 174 i0 _ 5 40 underlying63 hi A5 A6 A7 rfl d_ _ _ _ rfl (World.ownsRow_made w #[] 0 (l_) m_ rfl) ad n c xs rfl HL.o A4.o h1 m_ o_ t_ ?_;intro v' w1 A0 A1 _);go_ret;have hz:=A1.size;rw [Nat.zero_add,List.nil_append] at A0;have hb:Below w w w1:=((b_).alloc (l_) _).grown A1 t_ (fun k hk=>by injection hk with hk;subst hk;exact l_);rcases A0.2 with ⟨rfl,h0⟩ | ⟨g,cap,cur,rfl,_⟩
  ·exact u0_
  exact ⟨_,_,rfl,A0,hb⟩
end SqCloD
namespace SqCloA
theorem infoE:(prog.info? 152).map (fun i=>(i.zero,i.size,i.bytes))=some (some (.agg #[.bool false,i_ 0,i_ 0]),3,24):=by kernel_rfl
theorem any (A:OA) (n c:Nat) (xs:VL) (w:World) (hA:A=none->n=0) (hsrc:∀ ad,A=some ad->∀ (j:Nat) (u:Value),xs[j]?=some u->w.cell? (ad.add j)=some u)
  (hl:xs.length=n*3) (hn:n<=1000000) (h1:∀ u ∈ xs,u.oneCell'=true) :
  Calls prog 99 #[.slice A n c] w fun e w'=>∃ A' c',e=.returned (.slice A' n c')/\w'.ownsRow w 152 3 (.slice A' n c') n xs/\Below w w w':=by
 obtain ⟨i0,hi,A5,A6,A7⟩:=info_parts infoE;have HL:=q_ hl;clear hl;cases A with
 | none =>
  obtain rfl:=hA rfl;obtain rfl:xs=[]:=List.eq_nil_of_length_eq_zero x2_;have A2:=fun (w:World)=>Lib.run_eql_slice_nil (P:=prog) w 36 152 none 0 c 0 0 underlying36
  go_enter func99,ntmps99;exact v3_
 | some ad =>
  have HS:=q_ (hsrc ad rfl);clear hsrc hA;have A3:∀ (j:Nat) (u:Value),xs[j]?=some u->(w.alloc (.cells #[] 152)).cell? (ad.add j)=some u:=fun j u hu=>by
   exact vp_
  have A4:=q_ A3;clear A3;have A2:=fun (w:World)=>Lib.run_eql_slice_nil (P:=prog) w 36 152 (some ad) n c 0 0 underlying36
  go_enter func99,ntmps99;go_wp2_with (at_builtin;refine wpList_append_own _ rfl _ _ 36 rfl w 152 i0 _ 3 24 underlying36 hi A5 A6 A7 rfl d_ _ _ _ rfl (World.ownsRow_made w #[] 0 (l_) m_ rfl) ad n c xs rfl HL.o A4.o h1 m_ o_ t_ ?_;intro v' w1 A0 A1 _);go_ret;have hz:=A1.size;rw [Nat.zero_add,List.nil_append] at A0;have hb:Below w w w1:=((b_).alloc (l_) _).grown A1 t_ (fun k hk=>by injection hk with hk;subst hk;exact l_);rcases A0.2 with ⟨rfl,h0⟩ | ⟨g,cap,cur,rfl,_⟩
  ·exact u0_
  exact ⟨_,_,rfl,A0,hb⟩
end SqCloA
namespace CloneObj
theorem infoE:(prog.info? 90).map (fun i=>(i.zero,i.size,i.bytes))=some (some (.agg #[i_ 0,.slice none 0 0]),2,32):=by kernel_rfl
theorem any (A:OA) (n c:Nat) (xs:VL) (w:World) (hA:A=none->n=0) (hsrc:∀ ad,A=some ad->∀ (j:Nat) (u:Value),xs[j]?=some u->w.cell? (ad.add j)=some u)
  (hl:xs.length=n*2) (hn:n<=4398046510976) (h1:∀ u ∈ xs,u.oneCell'=true) :
  Calls prog 150 #[.slice A n c] w fun e w'=>∃ A' c',e=.returned (.slice A' n c')/\w'.ownsRow w 90 2 (.slice A' n c') n xs/\Below w w w':=by
 obtain ⟨i0,hi,A5,A6,A7⟩:=info_parts infoE;have HL:=q_ hl;clear hl;cases A with
 | none =>
  obtain rfl:=hA rfl;obtain rfl:xs=[]:=List.eq_nil_of_length_eq_zero x2_;have A2:=fun (w:World)=>Lib.run_eql_slice_nil (P:=prog) w 33 90 none 0 c 0 0 underlying33
  go_enter func150,ntmps150;exact v3_
 | some ad =>
  have HS:=q_ (hsrc ad rfl);clear hsrc hA;have A3:∀ (j:Nat) (u:Value),xs[j]?=some u->(w.alloc (.cells #[] 90)).cell? (ad.add j)=some u:=fun j u hu=>by
   exact vp_
  have A4:=q_ A3;clear A3;have A2:=fun (w:World)=>Lib.run_eql_slice_nil (P:=prog) w 33 90 (some ad) n c 0 0 underlying33
  go_enter func150,ntmps150;go_wp2_with (at_builtin;refine wpList_append_own _ rfl _ _ 33 rfl w 90 i0 _ 2 32 underlying33 hi A5 A6 A7 rfl d_ _ _ _ rfl (World.ownsRow_made w #[] 0 (l_) m_ rfl) ad n c xs rfl HL.o A4.o h1 m_ o_ t_ ?_;intro v' w1 A0 A1 _);go_ret;have hz:=A1.size;rw [Nat.zero_add,List.nil_append] at A0;have hb:Below w w w1:=((b_).alloc (l_) _).grown A1 t_ (fun k hk=>by injection hk with hk;subst hk;exact l_);rcases A0.2 with ⟨rfl,h0⟩ | ⟨g,cap,cur,rfl,_⟩
  ·exact u0_
  exact ⟨_,_,rfl,A0,hb⟩
end CloneObj
namespace CloneVal
theorem infoE:(prog.info? 38).map (fun i=>(i.zero,i.size,i.bytes))=some (some (.agg #[.bool false,i_ 0]),2,16):=by kernel_rfl
theorem any (A:OA) (n c:Nat) (xs:VL) (w:World) (hA:A=none->n=0) (hsrc:∀ ad,A=some ad->∀ (j:Nat) (u:Value),xs[j]?=some u->w.cell? (ad.add j)=some u)
  (hl:xs.length=n*2) (hn:n<=8796093021952) (h1:∀ u ∈ xs,u.oneCell'=true) :
  Calls prog 151 #[.slice A n c] w fun e w'=>∃ A' c',e=.returned (.slice A' n c')/\w'.ownsRow w 38 2 (.slice A' n c') n xs/\Below w w w':=by
 obtain ⟨i0,hi,A5,A6,A7⟩:=info_parts infoE;have HL:=q_ hl;clear hl;cases A with
 | none =>
  obtain rfl:=hA rfl;obtain rfl:xs=[]:=List.eq_nil_of_length_eq_zero x2_;have A2:=fun (w:World)=>Lib.run_eql_slice_nil (P:=prog) w 88 38 none 0 c 0 0 underlying88
  go_enter func151,ntmps151;exact v3_
 | some ad =>
  have HS:=q_ (hsrc ad rfl);clear hsrc hA;have A3:∀ (j:Nat) (u:Value),xs[j]?=some u->(w.alloc (.cells #[] 38)).cell? (ad.add j)=some u:=fun j u hu=>by
   exact vp_
  have A4:=q_ A3;clear A3;have A2:=fun (w:World)=>Lib.run_eql_slice_nil (P:=prog) w 88 38 (some ad) n c 0 0 underlying88
  go_enter func151,ntmps151;go_wp2_with (at_builtin;refine wpList_append_own _ rfl _ _ 88 rfl w 38 i0 _ 2 16 underlying88 hi A5 A6 A7 rfl d_ _ _ _ rfl (World.ownsRow_made w #[] 0 (l_) m_ rfl) ad n c xs rfl HL.o A4.o h1 m_ o_ t_ ?_;intro v' w1 A0 A1 _);go_ret;have hz:=A1.size;rw [Nat.zero_add,List.nil_append] at A0;have hb:Below w w w1:=((b_).alloc (l_) _).grown A1 t_ (fun k hk=>by injection hk with hk;subst hk;exact l_);rcases A0.2 with ⟨rfl,h0⟩ | ⟨g,cap,cur,rfl,_⟩
  ·exact u0_
  exact ⟨_,_,rfl,A0,hb⟩
end CloneVal
def byteCells (x:Int):VL:=[.int .u8 x]
def Dice (w:World) (d:Nat):Prop:=d<w/\∃ S sn sc,∃ a:Nat,w.cell? (a_ d)=some (.slice S sn sc)/\w.cell? (f_ d 1)=some (i_ a)/\w.frozen? (f_ d 1)=false/\a<=sn/\sn<=200 ∧
 (∀ i,i<sn->∃ sb so x,S=some (f_ sb so)/\sb<d/\0<=x/\x<=255/\w.cell? ⟨sb,so+i,none⟩=some (.int .u8 x))
theorem Dice.below {w w':World} {d:Nat} (h:Dice w d) (hb:Below w w w'):Dice w' d:=by
 obtain ⟨hd,S,sn,sc,a,h0,h1,h2,h3,h4,h5⟩:=h;refine ⟨by have:=hb.size;omega,S,sn,sc,a,(belc hb hd).trans h0,(belc hb hd).trans h1,(belf hb hd).trans h2,h3,h4,fun i hi=>?_⟩;obtain ⟨sb,so,x,e,A0,h6,h7,h8⟩:=h5 i hi;exact ⟨sb,so,x,e,A0,h6,h7,(belc hb o_).trans h8⟩
theorem Dice.set {w:World} {d:Nat} (h:Dice w d) {p:Addr} (hp:d<p.block) (u:Value):Dice (w.setCell p u) d:=by
 obtain ⟨hd,S,sn,sc,a,h0,h1,h2,h3,h4,h5⟩:=h;have ne:∀ b o,b<=d->(w.setCell p u).cell? (f_ b o)=w.cell? (f_ b o):=fun b o hb=>World.cell?_setCell_other w p _ _ (fun e=>by rw [e] at hp;have:d<b:=hp;omega)
 refine ⟨by simpa using hd,S,sn,sc,a,(ne _ _ (l_)).trans h0,(ne _ _ (l_)).trans h1,by rw [World.frozen?_setCell];exact h2,h3,h4,fun i hi=>?_⟩;obtain ⟨sb,so,x,e,A0,h6,h7,h8⟩:=h5 i hi;exact ⟨sb,so,x,e,A0,h6,h7,(ne _ _ o_).trans h8⟩
theorem Dice.lt {w:World} {d:Nat} (h:Dice w d):d<w:=h.1
structure cd_ (w:World) (d:Nat) (w':World):Prop where
 dice:Dice w' d
 grown:w.grownBy w' (some d)
theorem cd_.cell {w w':World} {d:Nat} (h:cd_ w d w') {b o:Nat} (hb:b<w) (hne:b≠d):w'.cell? (f_ b o)=w.cell? (f_ b o):=(gcell h.grown).1 b o hb (fun e=>hne (by injection e))
theorem cd_.frozen {w w':World} {d:Nat} (h:cd_ w d w') {b o:Nat} (hb:b<w) (hne:b≠d):w'.frozen? (f_ b o)=w.frozen? (f_ b o):=(gcell h.grown).2 b o hb (fun e=>hne (by injection e))
theorem cd_.size {w w':World} {d:Nat} (h:cd_ w d w'):(w:Nat)<=w':=h.grown.size
theorem cd_.below {w w':World} {d B:Nat} (h:cd_ w d w') (h1:B<=d) (h2:B<=w):Below B w w':=(Below.refl B w).grown h.grown h2 (fun k hk=>by injection hk with hk;omega)
theorem cd_.trans {w w' w'':World} {d:Nat} (h:cd_ w d w') (h':cd_ w' d w''):cd_ w d w'':=⟨h'.dice,h.grown.trans h'.grown⟩
theorem cd_.of_below {w w':World} {d:Nat} (h:Dice w d) (hb:Below w w w'):cd_ w d w':=⟨h.below hb,cf_ hb _⟩
theorem thrown_at {w:World} {d sn sc a:Nat} {S:OA} (hd:d<w) (h0:w.cell? (a_ d)=some (.slice S sn sc)) (h1:w.cell? (f_ d 1)=some (i_ a)) (h2:w.frozen? (f_ d 1)=false) (h3:a<sn) (h4:sn<=200)
  (h5:∀ i,i<sn->∃ sb so x,S=some (f_ sb so)/\sb<d/\0<=x/\x<=255/\w.cell? ⟨sb,so+i,none⟩=some (.int .u8 x)) (i j:Nat) :
  cd_ w d (((w.drewN i).setCell (f_ d 1) (i_ (a+1))).drewN j):=by
 have hc:∀ q,(((w.drewN i).setCell (f_ d 1) (i_ (a+1))).drewN j).cell? q=(w.setCell (f_ d 1) (i_ (a+1))).cell? q:=fun q=>rfl
 have hz:(((w.drewN i).setCell (f_ d 1) (i_ (a+1))).drewN j).heap.size=w:=by show (w.setCell _ _).heap.size=_;simp
 refine ⟨⟨by rw [hz];exact hd,S,sn,sc,a+1,?_,?_,?_,h3,h4,fun k hk=>?_⟩,?_⟩
 ·rw [hc,bh_ _ _ _ _ zm_];exact h0
 ·rw [hc,World.cell?_setCell_same _ _ _ h1];rfl
 ·show (w.setCell _ _).frozen? _=false;rw [World.frozen?_setCell];exact h2
 ·obtain ⟨sb,so,x,e,h6,h7,h8,h9⟩:=h5 k hk;refine ⟨sb,so,x,e,h6,h7,h8,?_⟩;rw [hc,bh_ _ _ _ _ zm_];exact h9
 exact ⟨rfl,rfl,rfl,by rw [hz];exact l_,fun k hk A0=>Below.heap_setCell w (f_ d 1) _ k (fun e=>A0 xq_)⟩
structure Lv {α:Type} (w:World) (d sz:Nat) (cells:α->VL) (A:OA) (n:Nat) (l:List α):Prop where
 sl:Sl w w sz cells A n l
 hi:0<n->∀ ad,A=some ad->ad.block≠d
theorem Lv.below {α:Type} {w w':World} {d sz n:Nat} {cells:α->VL} {A:OA} {l:List α} (h:Lv w d sz cells A n l) (hb:Below w w w'):Lv w' d sz cells A n l:=⟨h.sl.up hb,h.hi⟩
theorem bn_ (d n:Nat) (w:World) (hD:Dice w d) (h1:1<=n) (hn:n<=1000000) :
  Calls prog 26 #[.pointer (some (a_ d)),i_ n] w fun e w'=>∃ r:Nat,r<n/\e=.returned (i_ r)/\cd_ w d w'/\(w':Nat)=w:=by
 have HD:=q_ hD;obtain ⟨hd,S,sn,sc,a,c0,c1,f1,ha,A0,hs⟩:=hD;by_cases hlt:a<sn
 ·obtain ⟨sb,so,x,rfl,A1,A2,A3,hx⟩:=hs a hlt;have hne:¬sb=d:=by omega
  have HS:=q_ hs;clear hs;go_enter func26,ntmps26;go_wp2;go_quiet (fail);go_wp2;go_quiet (fail);go_wp2;go_ret;obtain ⟨r,hr⟩:∃ r:Nat,x % n=r:=⟨(x % n).toNat,by have:=Int.emod_nonneg x (show (n:Int)≠0 by omega);omega⟩;refine ⟨r,by have:=Int.emod_lt_of_pos x (show (0:Int)<n by omega);omega,by rw [hr];rfl,thrown_at hd c0 c1 f1 hlt A0 HS.o _ _,?_⟩;show (w.setCell _ _).heap.size=_
  simp
 go_enter func26,ntmps26;go_wp2;go_quiet (fail);go_wp2;go_ret;exact ⟨0,h1,rfl,.of_below HD.o (bel (b_)),rfl⟩
theorem new_dice (A:OA) (n c:Nat) (l:List Int) (w:World) (hs:Sl w w 1 byteCells A n l) (hl:∀ (i:Nat) (x:Int),l[i]?=some x->0<=x/\x<=255) (hnc:n<=c) (hn:n<=9223372036854775807) (hc:c<=9223372036854775807) :
  Calls prog 10 #[.slice A n c] w fun e w'=>∃ d,e=.returned (pt d)/\Dice w' d/\w<=d/\Below w w w':=by
 have HL:=q_ hl;have HS:=q_ hs;clear hl hs;have A0:∀ (m:Nat) (o:Obj),m<=n->∀ i,i<m->∃ sb so x,A=some (f_ sb so)/\sb<w/\0<=x/\x<=255/\(w.alloc o).cell? ⟨sb,so+i,none⟩=some (.int .u8 x):=fun m o hm i hi=>by
  obtain ⟨ab,ao,rfl,A2,A3⟩:=HS.o.at_ o_;obtain ⟨x,hx⟩:∃ x,l[i]?=some x:=⟨_,ge_ (by rw [HS.o.len];omega)⟩;have h:=A3 i x hx 0 _ rfl;simp only [Nat.mul_one,Nat.add_zero] at h;exact ⟨ab,ao,x,rfl,A2,(HL.o i x hx).1,(HL.o i x hx).2,(al_ _ _ _ _ A2).trans h⟩
 have A1:=q_ A0;clear A0;by_cases h200:200<n
 ·go_enter func10,ntmps10;go_wp2_with go_in;go_ret;refine ⟨w,rfl,⟨zj_,A,200,c,0,zj_,zj_,zj_,o_,o_,A1.o 200 _ o_⟩,l_,(bel (b_))⟩
 go_enter func10,ntmps10;go_wp2_with go_in;go_ret;refine ⟨w,rfl,⟨zj_,A,n,c,0,zj_,zj_,zj_,o_,o_,A1.o n _ o_⟩,l_,(bel (b_))⟩
structure Hp (w:World) (B:Nat) (A:OA) (n:Nat) (l:List Ob):Prop where
 sl:Sl w B 2 Ob.cells A n l
 obs:∀ o ∈ l,Sl w B 2 Val.cells o.A o.n o.s/\o.n<=8796093021952
section
variable {w w':World} {B B' n:Nat} {A:OA} {l:List Ob}
theorem Hp.below (h:Hp w B A n l) (hb:Below B w w'):Hp w' B A n l:=⟨h.sl.below hb,fun o ho=>⟨(h.obs o ho).1.below hb,(h.obs o ho).2⟩⟩
theorem Hp.mono (h:Hp w B A n l) (hB:B<=B'):Hp w B' A n l:=⟨h.sl.mono hB,fun o ho=>⟨(h.obs o ho).1.mono hB,(h.obs o ho).2⟩⟩
theorem Hp.up (h:Hp w w A n l) (hb:Below w w w'):Hp w' w' A n l:=(h.below hb).mono hb.size
end
theorem index_any (A:OA) (n c:Nat) (l:List Ob) (id:Int) (w:World) (hs:Sl w w 2 Ob.cells A n l) (hn:n<=9000000000000) :
  Calls prog 149 #[.agg #[.slice A n c],i_ id] w fun e w'=>e=.returned (i_ (idxI id (l.map Ob.po)))/\Below w w w':=by
 have HL:=q_ hs.len;go_enter func149,ntmps149;go_wp2;go_step3;go_wp2;go_step3;go_wp2;go_loopw [5,11] (fun f i wr=>∃ k:Nat,k<=n/\f=i_ (-1)/\i=i_ k/\Hid (∀ (i:Nat) (x:Ob),i<k->l[i]?=some x->x.id≠id)/\Below w w wr) (fun _ i _=>n - (intOf i).toNat)
 case atStart=>exact ⟨0,Nat.zero_le _,rfl,rfl,q_ (fun i x h=>absurd h o_),(bel (b_))⟩
 obtain ⟨k,hk,rfl,rfl,A1,hb⟩:=hrel;have A3:=hb.size;by_cases hlt:k<n
 ·obtain ⟨ab,ao,rfl,A2,A0⟩:=hs.at_ o_;obtain ⟨x,hx⟩:∃ x,l[k]?=some x:=⟨_,ge_ z8_⟩;have c0:wr.cell? ⟨ab,ao+k*2,none⟩=some (i_ x.id):=(belc hb A2).trans (A0 k x hx 0 _ rfl);have c1:wr.cell? ⟨ab,ao+k*2+1,none⟩=some (.slice x.A x.n x.c):=(belc hb A2).trans (A0 k x hx 1 _ rfl);have HX:=q_ hx;clear A0 hx;by_cases he:x.id=id
  ·have HE:=q_ (show idxI id (l.map Ob.po)=k from by
    rw [idxI,idx_some (po_at HX.o) he (fun j y hj hy=>by obtain ⟨z,hz,rfl⟩:=po_at' hy;exact A1.o j z hj hz)])
   go_wp2;rw [Exit.noGoto_ret];go_ret;exact ⟨ya_,(bel hb)⟩
  go_wp2;go_roundw
  case rel =>
   refine ⟨k+1,o_,rfl,zb_,q_ (fun i y hi hy=>?_),(bel hb)⟩;by_cases hik:i=k
   ·subst hik;rw [HX.o] at hy;injection hy with hy;subst hy;exact he
   exact A1.o i y o_ hy
  case measure=>exact me_
 obtain rfl:k=n:=by omega
 have HE:=q_ (show idxI id (l.map Ob.po)=-1 from by
  rw [idxI,idx_none (fun j y hy=>by
   obtain ⟨z,hz,rfl⟩:=po_at' hy
   exact A1.o j z (by have:=(e_ hz).1;rw [HL.o] at this;exact this) hz)])
 go_wp2;rw [Exit.noGoto_ret];go_ret;exact ⟨ya_,hb⟩
theorem refat_any (A:OA) (n c:Nat) (l:List Ob) (id:Int) (w:World) (hs:Sl w w 2 Ob.cells A n l) (hn:n<=9000000000000) :
  Calls prog 57 #[.agg #[.slice A n c],i_ id] w fun e w'=>e=.returned (i_ (idxI id (l.map Ob.po)))/\Below w w w':=by
 have HL:=q_ hs.len;go_enter func57,ntmps57;go_wp2_with fail;go_loopw [10] (fun i wr=>∃ k:Nat,k<=n/\i=i_ k/\Hid (∀ (i:Nat) (x:Ob),i<k->l[i]?=some x->x.id≠id)/\Below w w wr) (fun i _=>n - (intOf i).toNat)
 case atStart=>exact ⟨0,Nat.zero_le _,rfl,q_ (fun i x h=>absurd h o_),(bel (b_))⟩
 obtain ⟨k,hk,rfl,A1,hb⟩:=hrel;have A3:=hb.size;by_cases hlt:k<n
 ·obtain ⟨ab,ao,rfl,A2,A0⟩:=hs.at_ o_;obtain ⟨x,hx⟩:∃ x,l[k]?=some x:=⟨_,ge_ z8_⟩;have c0:wr.cell? ⟨ab,ao+k*2,none⟩=some (i_ x.id):=(belc hb A2).trans (A0 k x hx 0 _ rfl);have c1:wr.cell? ⟨ab,ao+k*2+1,none⟩=some (.slice x.A x.n x.c):=(belc hb A2).trans (A0 k x hx 1 _ rfl);have HX:=q_ hx;clear A0 hx;by_cases he:x.id=id
  ·have HE:=q_ (show idxI id (l.map Ob.po)=k from by
    rw [idxI,idx_some (po_at HX.o) he (fun j y hj hy=>by obtain ⟨z,hz,rfl⟩:=po_at' hy;exact A1.o j z hj hz)])
   go_wp2;go_ret;exact ⟨ya_,(bel hb)⟩
  go_wp2;go_roundw
  case rel =>
   refine ⟨k+1,o_,zb_,q_ (fun i y hi hy=>?_),(bel hb)⟩;by_cases hik:i=k
   ·subst hik;rw [HX.o] at hy;injection hy with hy;subst hy;exact he
   exact A1.o i y o_ hy
  case measure=>exact me_
 obtain rfl:k=n:=by omega
 have HE:=q_ (show idxI id (l.map Ob.po)=-1 from by
  rw [idxI,idx_none (fun j y hy=>by
   obtain ⟨z,hz,rfl⟩:=po_at' hy
   exact A1.o j z (by have:=(e_ hz).1;rw [HL.o] at this;exact this) hz)])
 go_wp2;go_ret;exact ⟨ya_,hb⟩
theorem tmod_facts (v:Int) (n:Nat) (h:1<=n):(v.tmod n<0->v.tmod n+n=v % n)/\(¬v.tmod n<0->v.tmod n=v % n):=by
 have hp:(0:Int)<n:=by omega
 have h1:=Int.tmod_lt_of_pos v hp;have h2:=Int.lt_tmod_of_pos v hp;have hd:=Int.tmod_def v n;have he:v % n=(v.tmod n) % n:=by
  have h3:v=v.tmod n+n*v.tdiv n:=by omega
  conv=>lhs;rw [h3]
  rw [Int.add_mul_emod_self_left]
 refine ⟨fun h0=>?_,fun h0=>?_⟩
 ·rw [he,<-Int.add_emod_right,Int.emod_eq_of_lt o_ o_]
 rw [he,Int.emod_eq_of_lt o_ o_]
theorem mod_any (v:Int) (n:Nat) (w:World) (h0:1<=n) (h1:n<=1000000) (hv:-9223372036854775808<=v/\v<=9223372036854775807) :
  Calls prog 12 #[i_ v,i_ n] w fun e w'=>∃ r:Nat,r<n/\(r:Int)=v % n/\e=.returned (i_ r)/\Below w w w':=by
 have hp:(0:Int)<n:=by omega
 obtain ⟨r,hr⟩:∃ r:Nat,v % n=r:=⟨(v % n).toNat,by have:=Int.emod_nonneg v (show (n:Int)≠0 by omega);omega⟩;have e1:=Int.emod_lt_of_pos v hp;obtain ⟨t1,t2⟩:=tmod_facts v n h0;have A1:=q_ t1;have A2:=q_ t2;have HV:=q_ hv;have HR:=q_ hr;have b1:=Int.tmod_lt_of_pos v hp;have b2:=Int.lt_tmod_of_pos v hp;have A0:r<n:=by omega
 clear t1 t2 hv e1 hr;by_cases hn:v.tmod n<0
 ·go_enter func12,ntmps12;go_wp2;go_ret;exact ⟨r,A0,HR.o.symm,by rw [<-HR.o,<-A1.o hn];rfl,b_⟩
 go_enter func12,ntmps12;go_wp2;go_ret;exact ⟨r,A0,HR.o.symm,by rw [<-HR.o,<-A2.o hn];rfl,b_⟩
end Go.Proofs.YtfolidlmgfhkiaaGreat
namespace Go.Proofs.YtfolidlmgfhkiaaGreat
open Go.ChangeShapes Go.WideShapes Go.ChangeAt Go.RowKit Go.Deep
theorem Tryz.own:ownKnob Tryz.prog.godebug=none:=by kernel_rfl
theorem Tryz.laidOut:laidOutB Tryz.prog=true:=by kernel_rfl
section
variable {H:Type} {enc:TypeId × Value->H} {P:Program} {W W':World}
theorem trodAll_below (hl:laidOutB P=true) (hb:Below W W W'):∀ (ts:List TypeId) (vs:VL) (ds:List (DataW H)) (ps:List MemPlace),
  (∀ t ∈ ts,P.readableRec t=true/\t<P.types.size)->DataW.TrodAll enc P W 0 (fun _=>true) true ts vs ds ps->(∀ x ∈ ps,x.block<W) →
  DataW.TrodAll enc P W' 0 (fun b=>decide (b<W)) true ts vs ds ps
 | [],[],[],_,_,h,_=>h
 | t :: ts,v :: vs,d :: ds,ps,hr,h,hlt=>by
  obtain ⟨p,q,h1,h2,rfl⟩:=h;have A0:=hr t t_;exact ⟨p,q,Below.trod hl A0.1 A0.2 h1 hb (fun x hx=>hlt x (List.mem_append_left _ hx)),
   trodAll_below hl hb ts vs ds q (fun t ht=>hr t (by simp [ht])) h2 (fun x hx=>hlt x (List.mem_append_right _ hx)),rfl⟩
 | [],_ :: _,_,_,_,h,_=>h.elim
 | [],[],_ :: _,_,_,h,_=>h.elim
 | _ :: _,[],_,_,_,h,_=>h.elim
 | _ :: _,_ :: _,[],_,_,h,_=>h.elim
theorem law_post {fn:Func} {s:ChangeSpec} {args:Array Value} {ds:List (DataW H)} {before:List MemPlace} {tb:TypeId}
  (hl:laidOutB P=true) (hread:∀ t ∈ fn.params.toList,P.readableRec t=true/\t<P.types.size)
  (hW:DataW.Whole enc P fn.params.toList s.vars false W args.toList ds [] before) (hvars:s.vars=[])
  (hres:fn.resultTypes=#[tb]) (hub:P.underlying tb=some .bool)
  (hfn:s.fn H (ds ++ [])={ results:=[.lit (.bool true)],args:=ds }) (hb:Below W W W') :
  s.post enc P fn false true false false W args (.bool true) W':=by
 have A0:=hW;obtain ⟨p,q,hA,hV,rfl,_,_⟩:=hW;have A1:=A0.lt;rw [hvars] at hV;obtain ⟨_,rfl⟩:=trodVars_none hV;refine ⟨ds,[],_,[],p,[],A0,?_,?_,?_,hb.frame _,fun h=>by cases h⟩
 ·rw [hfn,hres];exact trodAll_mk1 (shut_bool hub true)
 ·rw [hfn];exact trodAll_below hl hb _ _ _ _ hread hA (fun x hx=>A1 x (List.mem_append_left _ hx))
 rw [hfn,hvars];rfl
theorem open_sl {α:Type} {cells:α->VL} {sz:Nat} {Ok:α->Prop} {t e:TypeId} {v:Value} {d:DataW H} {p:List MemPlace} {b0:Nat} (ht:P.underlying t=some (.slice e)) (hC:P.cellsOf e=sz) (hs:0<sz)
  (hval:Value.okWide P W .any b0 t v) (h:DataW.Trod enc P W 0 (fun _=>true) true t v d p)
  (hel:∀ n cs y,cs.length=sz->DataW.trod enc P W 0 (fun _=>true) true n e cs=some y->∃ x:α,cs=cells x/\Ok x) :
  ∃ A n c l,v=.slice A n c/\n<=c/\c<=9223372036854775807/\Sl W W sz cells A n l/\∀ x ∈ l,Ok x:=by
 obtain ⟨A,n,c,rfl⟩:=okWide_slice ht hval;obtain ⟨A5,hf⟩:=h;rcases open_slice ht hf with ⟨hcs,_⟩ | ⟨a,len,cap,m,k,D,Pl,hcs,_,hlc,hcm,hmm,_,hi⟩
 ·simp [Value.cells] at hcs;obtain ⟨rfl,rfl,rfl⟩:=hcs;exact ⟨none,0,0,[],rfl,l_,o_,Sl.nil,zj_⟩
 simp [Value.cells] at hcs;obtain ⟨rfl,rfl,rfl⟩:=hcs;simp only [if_true] at hmm;subst hmm;have Aa:∀ k',k'<=n->∃ l:List α,l.length=k'/\∀ (i:Nat) (x:α),l[i]?=some x->Ok x/\W.cells? 0 (a.add (i*sz)) sz=some (cells x):=by
  intro k'
  induction k' with
  | zero=>intro _;exact ⟨[],rfl,zj_⟩
  | succ k' ih =>
   intro Ag;obtain ⟨l,hl,A1⟩:=ih o_;obtain ⟨A4,h1,h2⟩:=hi k' o_;rw [hC] at h1;obtain ⟨_,A3,_⟩:=World.cells?_some h1;obtain ⟨x,rfl,Ad⟩:=hel k A4 _ A3 h2;refine ⟨l ++ [x],by simp [hl],fun i y hy=>?_⟩;by_cases hik:i<k'
   ·rw [List.getElem?_append_left o_] at hy;exact A1 i y hy
   have Ac:=(e_ hy).1;simp [hl] at Ac;obtain rfl:i=k':=by omega
   rw [List.getElem?_append_right o_,hl] at hy;simp at hy;subst hy;exact ⟨Ad,h1⟩
 obtain ⟨l,hl,A1⟩:=Aa n (l_);refine ⟨some a,_,_,l,rfl,hlc,by unfold maxLen at hcm;omega,⟨hl,fun hn=>?_⟩,fun x hx=>?_⟩
 ·have A0:∀ (i:Nat) (x:α),l[i]?=some x->∀ (j:Nat) (u:Value),(cells x)[j]?=some u->W.cell? ((a.add (i*sz)).add j)=some u:=fun i x hx j u hu=>by
   obtain ⟨_,h1⟩:=A1 i x hx;obtain ⟨_,A3,A7⟩:=World.cells?_some h1;have hj:=(e_ hu).1;rw [A7 j o_];exact hu
  have h0:0<l.length:=by omega
  obtain ⟨Ae,A8⟩:=A1 0 _ (ge_ h0);obtain ⟨_,A9,_⟩:=World.cells?_some A8;have hz:=A0 0 _ (ge_ h0) 0 _ (ge_ o_);have A6:(a.add (0*sz)).add 0=a:=by simp [Addr.add]
  rw [A6] at hz;obtain ⟨ab,ao,A2⟩:=a;have Af:A2=none:=by
   cases A2 with
   | none=>rfl
   | some _=>unfold World.cell? at hz;simp at hz;split at hz <;> simp at hz
  subst Af;refine ⟨ab,ao,rfl,World.block_lt_of_cell? W _ hz,fun i x hx j u hu=>?_⟩;have h:=A0 i x hx j u hu;rw [Addr.add_lit,Addr.add_lit] at h
  rwa [Nat.add_assoc] at h
 obtain ⟨i,Ab⟩:=List.getElem?_of_mem hx;exact (A1 i x Ab).1
theorem args_of {args:Array Value} {l:VL} (h:args.toList=l):args=l.toArray:=by rw [<-h]
theorem wf_i64 {n:Int} (h:(Lit.int .i64 n).wf=true):-9223372036854775808<=n/\n<=9223372036854775807:=by
 have h1:IntKind.i64.min=-9223372036854775808:=rfl;have h2:IntKind.i64.max=9223372036854775807:=rfl;simp only [Lit.wf,Bool.and_eq_true,decide_eq_true_eq] at h;omega
theorem wf_u8 {n:Int} (h:(Lit.int .u8 n).wf=true):0<=n/\n<=255:=by
 have h1:IntKind.u8.min=0:=rfl;have h2:IntKind.u8.max=255:=rfl;simp only [Lit.wf,Bool.and_eq_true,decide_eq_true_eq] at h;omega
end
end Go.Proofs.YtfolidlmgfhkiaaGreat
namespace Go.Proofs.YtfolidlmgfhkiaaGreat
open Go.RowKit Go.Proofs.Tryz
theorem read_any (A:OA) (n c:Nat) (l:List Ob) (id f:Int) (w:World) (hs:Hp w w A n l) (hn:n<=9000000000000) :
  Calls prog 93 #[.agg #[.slice A n c],i_ id,i_ f] w fun e w'=>e=.returned (.tuple #[.agg #[.bool (readD id f (l.map Ob.po)).ref,i_ (readD id f (l.map Ob.po)).n],.bool (cn_ id f (l.map Ob.po))])/\Below w w w':=by
 have HO:=q_ hs.obs;obtain ⟨w2,A0⟩:=ex_ ((w.alloc (.cells #[.slice A n c] 35)).alloc (.cells #[.bool false,i_ 0] 38));have A7:Below w w w2:=by rw [A0];exact (bel (b_))
 have Aj:(w2:Nat)=w+2:=by rw [A0];simp
 have HC:=h_ (w2.cell? (a_ w)=some (.slice A n c)) wp_;have Ab:=h_ (w2.cell? (a_ (w+1))=some (.bool false)) yn_;have Ac:=h_ (w2.cell? (f_ (w+1) 1)=some (i_ 0)) yn_;have HF:=h_ (∀ j,w2.frozen? (f_ (w+1) j)=false) (fun j=>by rw [A0,bu_ _ _ _ _ _ t_]);have Ad:=q_ (hs.sl.up A7);go_enter func93,ntmps93;go_wp2_with fail;rw [<-A0];have HW:=q_ A0;clear A0;refine (index_any A n c l id w2 Ad.o hn).mono ?_;rintro e w3 ⟨rfl,A5⟩;have e0:w3.cell? (a_ w)=some (.slice A n c):=(belc A5 o_).trans HC.o;have e1:w3.cell? (a_ (w+1))=some (.bool false):=(belc A5 o_).trans Ab.o;have e2:w3.cell? (f_ (w+1) 1)=some (i_ 0):=(belc A5 o_).trans Ac.o;have f0:w3.frozen? (a_ (w+1))=false:=(belf A5 o_).trans (HF.o 0);have f1:w3.frozen? (f_ (w+1) 1)=false:=(belf A5 o_).trans (HF.o 1);have A3:Below w w w3:=A7.trans (A5.mono A7.size);rcases bm_ id (l.map Ob.po) with ⟨hi,_⟩ | ⟨i,x,hi,hx,_,_⟩
 ·obtain ⟨r1,r2⟩:=read_no (f:=f) hi;have A1:=q_ r1;have A2:=q_ r2;have HI:=h_ (idxI id (l.map Ob.po)=-1) yy_;clear r1 r2 hi;rw [HI.o];go_wp2;refine bodyPost_ret (v:=.tuple #[.agg #[.bool false,i_ 0],.bool false]) yu_ rfl ?_;exact ⟨yz_,(bel A3)⟩
 obtain ⟨o,ho,rfl⟩:=po_at' hx;have hin:i<n:=by rw [<-hs.sl.len];exact (e_ ho).1
 obtain ⟨o1,o2⟩:=HO.o o (List.mem_of_getElem? ho);obtain ⟨ab,ao,rfl,Ag,Aa⟩:=hs.sl.at_ o_;have c1:w3.cell? ⟨ab,ao+i*2+1,none⟩=some (.slice o.A o.n o.c):=(belc A3 Ag).trans (Aa i o ho 1 _ rfl);have HI:=h_ (idxI id (l.map Ob.po)=i) yy_;have HX:=q_ hx;have A8:=q_ hi;have A9:=q_ o1.len;have Ah:¬(i:Int)<0:=by omega
 clear Aa hx ho hi;rw [HI.o];by_cases hf0:f<0
 ·obtain ⟨r1,r2⟩:=read_neg (id:=id) (l:=l.map Ob.po) hf0;exact un_
 by_cases hfn:(o.n:Int)<=f
 ·obtain ⟨r1,r2⟩:=read_far A8.o HX.o (f:=f) (by show (o.s.length:Int)<=f;rw [A9.o];exact hfn);exact un_
 obtain ⟨j,rfl⟩:∃ j:Nat,f=j:=⟨f.toNat,o_⟩;have Af:j<o.n:=by omega
 have Ai:(j:Int)<(o.n:Int):=by omega
 obtain ⟨v,hv⟩:∃ v,o.s[j]?=some v:=⟨_,ge_ (by rw [A9.o];exact Af)⟩;obtain ⟨fb,fo,Ae,A6,A4⟩:=o1.at_ o_;rw [Ae] at c1;have d0:w3.cell? ⟨fb,fo+j*2,none⟩=some (.bool v.ref):=(belc A3 A6).trans (A4 j v hv 0 _ rfl);have d1:w3.cell? ⟨fb,fo+j*2+1,none⟩=some (i_ v.n):=(belc A3 A6).trans (A4 j v hv 1 _ rfl);obtain ⟨r1,r2⟩:=read_at A8.o HX.o (j:=j) hv;have A1:=q_ r1;have A2:=q_ r2;have HV:=q_ hv;clear r1 r2 hv A4
 go_wp2;refine bodyPost_ret (v:=.tuple #[.agg #[.bool v.ref,i_ v.n],.bool true]) yu_ rfl ?_;exact ⟨yz_,(bel A3)⟩
theorem refread_any (A:OA) (n c:Nat) (l:List Ob) (id f:Int) (w:World) (hs:Hp w w A n l) (hn:n<=9000000000000) :
  Calls prog 17 #[.agg #[.slice A n c],i_ id,i_ f] w fun e w'=>e=.returned (.tuple #[.agg #[.bool (readD id f (l.map Ob.po)).ref,i_ (readD id f (l.map Ob.po)).n],.bool (cn_ id f (l.map Ob.po))])/\Below w w w':=by
 have HO:=q_ hs.obs;obtain ⟨w2,A0⟩:=ex_ ((w.alloc (.cells #[.slice A n c] 35)).alloc (.cells #[.bool false,i_ 0] 38));have A7:Below w w w2:=by rw [A0];exact (bel (b_))
 have Aj:(w2:Nat)=w+2:=by rw [A0];simp
 have HC:=h_ (w2.cell? (a_ w)=some (.slice A n c)) wp_;have Ab:=h_ (w2.cell? (a_ (w+1))=some (.bool false)) yn_;have Ac:=h_ (w2.cell? (f_ (w+1) 1)=some (i_ 0)) yn_;have HF:=h_ (∀ j,w2.frozen? (f_ (w+1) j)=false) (fun j=>by rw [A0,bu_ _ _ _ _ _ t_]);have Ad:=q_ (hs.sl.up A7);go_enter func17,ntmps17;go_wp2_with fail;rw [<-A0];have HW:=q_ A0;clear A0;refine (refat_any A n c l id w2 Ad.o hn).mono ?_;rintro e w3 ⟨rfl,A5⟩;have e0:w3.cell? (a_ w)=some (.slice A n c):=(belc A5 o_).trans HC.o;have e1:w3.cell? (a_ (w+1))=some (.bool false):=(belc A5 o_).trans Ab.o;have e2:w3.cell? (f_ (w+1) 1)=some (i_ 0):=(belc A5 o_).trans Ac.o;have f0:w3.frozen? (a_ (w+1))=false:=(belf A5 o_).trans (HF.o 0);have f1:w3.frozen? (f_ (w+1) 1)=false:=(belf A5 o_).trans (HF.o 1);have A3:Below w w w3:=A7.trans (A5.mono A7.size);rcases bm_ id (l.map Ob.po) with ⟨hi,_⟩ | ⟨i,x,hi,hx,_,_⟩
 ·obtain ⟨r1,r2⟩:=read_no (f:=f) hi;have A1:=q_ r1;have A2:=q_ r2;have HI:=h_ (idxI id (l.map Ob.po)=-1) yy_;clear r1 r2 hi;rw [HI.o];go_wp2;refine bodyPost_ret (v:=.tuple #[.agg #[.bool false,i_ 0],.bool false]) yv_ rfl ?_;exact ⟨yz_,(bel A3)⟩
 obtain ⟨o,ho,rfl⟩:=po_at' hx;have hin:i<n:=by rw [<-hs.sl.len];exact (e_ ho).1
 obtain ⟨o1,o2⟩:=HO.o o (List.mem_of_getElem? ho);obtain ⟨ab,ao,rfl,Ag,Aa⟩:=hs.sl.at_ o_;have c1:w3.cell? ⟨ab,ao+i*2+1,none⟩=some (.slice o.A o.n o.c):=(belc A3 Ag).trans (Aa i o ho 1 _ rfl);have HI:=h_ (idxI id (l.map Ob.po)=i) yy_;have HX:=q_ hx;have A8:=q_ hi;have A9:=q_ o1.len;have Ah:¬(i:Int)<0:=by omega
 clear Aa hx ho hi;rw [HI.o];by_cases hf0:f<0
 ·obtain ⟨r1,r2⟩:=read_neg (id:=id) (l:=l.map Ob.po) hf0;exact um_
 by_cases hfn:(o.n:Int)<=f
 ·obtain ⟨r1,r2⟩:=read_far A8.o HX.o (f:=f) (by show (o.s.length:Int)<=f;rw [A9.o];exact hfn);exact um_
 obtain ⟨j,rfl⟩:∃ j:Nat,f=j:=⟨f.toNat,o_⟩;have Af:j<o.n:=by omega
 have Ai:(j:Int)<(o.n:Int):=by omega
 obtain ⟨v,hv⟩:∃ v,o.s[j]?=some v:=⟨_,ge_ (by rw [A9.o];exact Af)⟩;obtain ⟨fb,fo,Ae,A6,A4⟩:=o1.at_ o_;rw [Ae] at c1;have d0:w3.cell? ⟨fb,fo+j*2,none⟩=some (.bool v.ref):=(belc A3 A6).trans (A4 j v hv 0 _ rfl);have d1:w3.cell? ⟨fb,fo+j*2+1,none⟩=some (i_ v.n):=(belc A3 A6).trans (A4 j v hv 1 _ rfl);obtain ⟨r1,r2⟩:=read_at A8.o HX.o (j:=j) hv;have A1:=q_ r1;have A2:=q_ r2;have HV:=q_ hv;clear r1 r2 hv A4
 go_wp2;refine bodyPost_ret (v:=.tuple #[.agg #[.bool v.ref,i_ v.n],.bool true]) yv_ rfl ?_;exact ⟨yz_,(bel A3)⟩
end Go.Proofs.YtfolidlmgfhkiaaGreat
namespace Go.Proofs.YtfolidlmgfhkiaaGreat
open Go.ChangeShapes Go.WideShapes Go.ChangeAt Go.RowKit Go.Deep
section
variable {H:Type} {enc:TypeId × Value->H} {W:World}
theorem el_byte {sp:Nat->Bool}:∀ n cs y,cs.length=1->DataW.trod enc Tryz.prog W 0 sp true n 5 cs=some y->∃ x:Int,cs=byteCells x/\(0<=x/\x<=255):=by
 intro n cs y _ h;obtain ⟨x,rfl,_,hw⟩:=DataW.trod_int Tryz.underlying5 h;exact ⟨x,rfl,wf_u8 hw⟩
end
end Go.Proofs.YtfolidlmgfhkiaaGreat
namespace Go.Proofs.YtfolidlmgfhkiaaGreat
open Go.RowKit Go.Proofs.Tryz
namespace SqXO
def idx (q:Ob->Bool):List Ob->Int
 | []=>-1
 | x :: l=>if q x then 0 else if idx q l<0 then -1 else idx q l+1
theorem idx_no {q:Ob->Bool}:∀ {l:List Ob},(∀ (i:Nat) (x:Ob),l[i]?=some x->q x=false)->idx q l=-1
 | [],_=>rfl
 | x :: l,h=>by
  exact vz_
theorem idx_at {q:Ob->Bool}:∀ {l:List Ob} {k:Nat} {x:Ob},l[k]?=some x->q x=true->(∀ (i:Nat) (y:Ob),i<k->l[i]?=some y->q y=false)->idx q l=k
 | [],k,x,h,_,_=>by simp at h
 | y :: l,0,x,h,hq,_=>by simp at h;subst h;simp [idx,hq]
 | y :: l,k+1,x,h,hq,hb=>by
  exact vo_
theorem bm_ (q:Ob->Bool):∀ l:List Ob,(idx q l=-1/\∀ (i:Nat) (x:Ob),l[i]?=some x->q x=false)\/∃ (k:Nat) (x:Ob),idx q l=k/\k<l.length/\l[k]?=some x/\q x=true/\∀ (i:Nat) (y:Ob),i<k->l[i]?=some y->q y=false
 | []=>.inl ⟨rfl,fun i x h=>by simp at h⟩
 | x :: l=>by
  cases hq:q x with
  | true=>exact .inr ⟨0,x,by simp [idx,hq],zj_,rfl,hq,fun i y hi=>absurd hi o_⟩
  | false =>
   rcases bm_ q l with ⟨h,hn⟩ | ⟨k,y,h,hk,hy,hqy,hb⟩
   ·refine .inl ⟨w0_,fun i y hy=>?_⟩
    match i,hy with
    | 0,hy=>simp at hy;subst hy;exact hq
    | i+1,hy=>exact hn i y z0_
   refine .inr ⟨k+1,y,y8_,zp_,z0_,hqy,fun i z hi hz=>?_⟩
   match i,hz with
   | 0,hz=>simp at hz;subst hz;exact hq
   | i+1,hz=>exact hb i z o_ yk_
theorem any (A:OA) (n c:Nat) (l:List Ob) (q:Ob->Bool) (p:Nat) (w:World) (hs:Sl w w 2 Ob.cells A n l) (hn:n<=9223372036854775807)
  (hf:∀ x,x ∈ l->∀ w',Below w w w'->Calls prog 145 #[.agg #[i_ x.id,.slice x.A x.n x.c],.pointer (some (a_ p))] w' fun e w''=>e=.returned (.bool (q x))/\Below w' w' w'') :
  Calls prog 181 #[.slice A n c,.func (.func 145) #[] #[.pointer (some (a_ p))]] w fun e w'=>e=.returned (i_ (idx q l))/\Below w w w':=by
 have HL:=q_ hs.len;have HF:=q_ hf;clear hf;go_enter func181,ntmps181;go_wp2_with fail;go_loopw [8] (fun i wr=>∃ k:Nat,k<=n/\i=i_ k/\Hid (∀ (i:Nat) (x:Ob),i<k->l[i]?=some x->q x=false)/\Below w w wr) (fun i _=>n - (intOf i).toNat)
 case atStart=>exact ⟨0,Nat.zero_le _,rfl,xv_,b_⟩
 obtain ⟨k,hk,rfl,A2,hb⟩:=hrel;by_cases hlt:k<n
 ·obtain ⟨ab,ao,rfl,A5,A3⟩:=hs.at_ o_;obtain ⟨x,hx⟩:∃ x,l[k]?=some x:=⟨_,ge_ z8_⟩;have A0:∀ (j:Nat) (u:Value),(Ob.cells x)[j]?=some u->wr.cell? ⟨ab,ao+(k*2+j),none⟩=some u:=fun j u hu=>(hb.cell (p:=(f_ ab _)) A5).trans (A3 k x hx j u hu)
  have c0:wr.cell? ⟨ab,ao+k*2,none⟩=some (i_ x.id):=A0 0 _ rfl;have c1:wr.cell? ⟨ab,ao+k*2+1,none⟩=some (.slice x.A x.n x.c):=A0 1 _ rfl;have HX:=q_ hx;clear A3 hx A0;cases hq:q x
  ·have HQ:=q_ hq;clear hq;go_wp2_with fail;refine (HF.o x (List.mem_of_getElem? HX.o) wr hb).mono ?_;rintro e w' ⟨rfl,A1⟩;rw [HQ.o];go_wp2;go_roundw
   case rel =>
    refine ⟨k+1,o_,zb_,fun i y hi hy=>?_,hb.trans (A1.mono hb.size)⟩;by_cases hik:i=k
    ·exact ud_
    exact A2.o i y o_ hy
   case measure=>exact me_
  exact vg_
 obtain rfl:k=n:=by omega
 exact vv_
end SqXO
namespace SqXC
def idx (q:Sq.Cl->Bool):List Sq.Cl->Int
 | []=>-1
 | x :: l=>if q x then 0 else if idx q l<0 then -1 else idx q l+1
theorem idx_no {q:Sq.Cl->Bool}:∀ {l:List Sq.Cl},(∀ (i:Nat) (x:Sq.Cl),l[i]?=some x->q x=false)->idx q l=-1
 | [],_=>rfl
 | x :: l,h=>by
  exact vz_
theorem idx_at {q:Sq.Cl->Bool}:∀ {l:List Sq.Cl} {k:Nat} {x:Sq.Cl},l[k]?=some x->q x=true->(∀ (i:Nat) (y:Sq.Cl),i<k->l[i]?=some y->q y=false)->idx q l=k
 | [],k,x,h,_,_=>by simp at h
 | y :: l,0,x,h,hq,_=>by simp at h;subst h;simp [idx,hq]
 | y :: l,k+1,x,h,hq,hb=>by
  exact vo_
theorem bm_ (q:Sq.Cl->Bool):∀ l:List Sq.Cl,(idx q l=-1/\∀ (i:Nat) (x:Sq.Cl),l[i]?=some x->q x=false)\/∃ (k:Nat) (x:Sq.Cl),idx q l=k/\k<l.length/\l[k]?=some x/\q x=true/\∀ (i:Nat) (y:Sq.Cl),i<k->l[i]?=some y->q y=false
 | []=>.inl ⟨rfl,fun i x h=>by simp at h⟩
 | x :: l=>by
  cases hq:q x with
  | true=>exact .inr ⟨0,x,by simp [idx,hq],zj_,rfl,hq,fun i y hi=>absurd hi o_⟩
  | false =>
   rcases bm_ q l with ⟨h,hn⟩ | ⟨k,y,h,hk,hy,hqy,hb⟩
   ·refine .inl ⟨w0_,fun i y hy=>?_⟩
    match i,hy with
    | 0,hy=>simp at hy;subst hy;exact hq
    | i+1,hy=>exact hn i y z0_
   refine .inr ⟨k+1,y,y8_,zp_,z0_,hqy,fun i z hi hz=>?_⟩
   match i,hz with
   | 0,hz=>simp at hz;subst hz;exact hq
   | i+1,hz=>exact hb i z o_ yk_
theorem any (A:OA) (n c:Nat) (l:List Sq.Cl) (q:Sq.Cl->Bool) (p:Nat) (w:World) (hs:Sl w w 4 Sq.Cl.cells A n l) (hn:n<=9223372036854775807)
  (hf:∀ x,x ∈ l->∀ w',Below w w w'->Calls prog 146 #[.agg #[i_ x.id,i_ x.field,.bool x.ref,i_ x.n],.pointer (some (a_ p))] w' fun e w''=>e=.returned (.bool (q x))/\Below w' w' w'') :
  Calls prog 94 #[.slice A n c,.func (.func 146) #[] #[.pointer (some (a_ p))]] w fun e w'=>e=.returned (i_ (idx q l))/\Below w w w':=by
 have HL:=q_ hs.len;have HF:=q_ hf;clear hf;go_enter func94,ntmps94;go_wp2_with fail;go_loopw [8] (fun i wr=>∃ k:Nat,k<=n/\i=i_ k/\Hid (∀ (i:Nat) (x:Sq.Cl),i<k->l[i]?=some x->q x=false)/\Below w w wr) (fun i _=>n - (intOf i).toNat)
 case atStart=>exact ⟨0,Nat.zero_le _,rfl,xv_,b_⟩
 obtain ⟨k,hk,rfl,A2,hb⟩:=hrel;by_cases hlt:k<n
 ·obtain ⟨ab,ao,rfl,A5,A3⟩:=hs.at_ o_;obtain ⟨x,hx⟩:∃ x,l[k]?=some x:=⟨_,ge_ z8_⟩;have A0:∀ (j:Nat) (u:Value),(Sq.Cl.cells x)[j]?=some u->wr.cell? ⟨ab,ao+(k*4+j),none⟩=some u:=fun j u hu=>(hb.cell (p:=(f_ ab _)) A5).trans (A3 k x hx j u hu)
  have c0:wr.cell? ⟨ab,ao+k*4,none⟩=some (i_ x.id):=A0 0 _ rfl;have c1:wr.cell? ⟨ab,ao+k*4+1,none⟩=some (i_ x.field):=A0 1 _ rfl;have c2:wr.cell? ⟨ab,ao+k*4+2,none⟩=some (.bool x.ref):=A0 2 _ rfl;have c3:wr.cell? ⟨ab,ao+k*4+3,none⟩=some (i_ x.n):=A0 3 _ rfl;have HX:=q_ hx;clear A3 hx A0;cases hq:q x
  ·have HQ:=q_ hq;clear hq;go_wp2_with fail;refine (HF.o x (List.mem_of_getElem? HX.o) wr hb).mono ?_;rintro e w' ⟨rfl,A1⟩;rw [HQ.o];go_wp2;go_roundw
   case rel =>
    refine ⟨k+1,o_,zb_,fun i y hi hy=>?_,hb.trans (A1.mono hb.size)⟩;by_cases hik:i=k
    ·exact ud_
    exact A2.o i y o_ hy
   case measure=>exact me_
  exact vg_
 obtain rfl:k=n:=by omega
 exact vv_
end SqXC
namespace SqXD
def idx (q:Sq.Dt->Bool):List Sq.Dt->Int
 | []=>-1
 | x :: l=>if q x then 0 else if idx q l<0 then -1 else idx q l+1
theorem idx_no {q:Sq.Dt->Bool}:∀ {l:List Sq.Dt},(∀ (i:Nat) (x:Sq.Dt),l[i]?=some x->q x=false)->idx q l=-1
 | [],_=>rfl
 | x :: l,h=>by
  exact vz_
theorem idx_at {q:Sq.Dt->Bool}:∀ {l:List Sq.Dt} {k:Nat} {x:Sq.Dt},l[k]?=some x->q x=true->(∀ (i:Nat) (y:Sq.Dt),i<k->l[i]?=some y->q y=false)->idx q l=k
 | [],k,x,h,_,_=>by simp at h
 | y :: l,0,x,h,hq,_=>by simp at h;subst h;simp [idx,hq]
 | y :: l,k+1,x,h,hq,hb=>by
  exact vo_
theorem bm_ (q:Sq.Dt->Bool):∀ l:List Sq.Dt,(idx q l=-1/\∀ (i:Nat) (x:Sq.Dt),l[i]?=some x->q x=false)\/∃ (k:Nat) (x:Sq.Dt),idx q l=k/\k<l.length/\l[k]?=some x/\q x=true/\∀ (i:Nat) (y:Sq.Dt),i<k->l[i]?=some y->q y=false
 | []=>.inl ⟨rfl,fun i x h=>by simp at h⟩
 | x :: l=>by
  cases hq:q x with
  | true=>exact .inr ⟨0,x,by simp [idx,hq],zj_,rfl,hq,fun i y hi=>absurd hi o_⟩
  | false =>
   rcases bm_ q l with ⟨h,hn⟩ | ⟨k,y,h,hk,hy,hqy,hb⟩
   ·refine .inl ⟨w0_,fun i y hy=>?_⟩
    match i,hy with
    | 0,hy=>simp at hy;subst hy;exact hq
    | i+1,hy=>exact hn i y z0_
   refine .inr ⟨k+1,y,y8_,zp_,z0_,hqy,fun i z hi hz=>?_⟩
   match i,hz with
   | 0,hz=>simp at hz;subst hz;exact hq
   | i+1,hz=>exact hb i z o_ yk_
theorem any (A:OA) (n c:Nat) (l:List Sq.Dt) (q:Sq.Dt->Bool) (p:Nat) (w:World) (hs:Sl w w 5 Sq.Dt.cells A n l) (hn:n<=9223372036854775807)
  (hf:∀ x,x ∈ l->∀ w',Below w w w'->Calls prog 148 #[.agg #[i_ x.id,i_ x.field,i_ x.op,.bool x.ref,i_ x.n],.pointer (some (a_ p))] w' fun e w''=>e=.returned (.bool (q x))/\Below w' w' w'') :
  Calls prog 182 #[.slice A n c,.func (.func 148) #[] #[.pointer (some (a_ p))]] w fun e w'=>e=.returned (i_ (idx q l))/\Below w w w':=by
 have HL:=q_ hs.len;have HF:=q_ hf;clear hf;go_enter func182,ntmps182;go_wp2_with fail;go_loopw [8] (fun i wr=>∃ k:Nat,k<=n/\i=i_ k/\Hid (∀ (i:Nat) (x:Sq.Dt),i<k->l[i]?=some x->q x=false)/\Below w w wr) (fun i _=>n - (intOf i).toNat)
 case atStart=>exact ⟨0,Nat.zero_le _,rfl,xv_,b_⟩
 obtain ⟨k,hk,rfl,A2,hb⟩:=hrel;by_cases hlt:k<n
 ·obtain ⟨ab,ao,rfl,A5,A3⟩:=hs.at_ o_;obtain ⟨x,hx⟩:∃ x,l[k]?=some x:=⟨_,ge_ z8_⟩;have A0:∀ (j:Nat) (u:Value),(Sq.Dt.cells x)[j]?=some u->wr.cell? ⟨ab,ao+(k*5+j),none⟩=some u:=fun j u hu=>(hb.cell (p:=(f_ ab _)) A5).trans (A3 k x hx j u hu)
  have c0:wr.cell? ⟨ab,ao+k*5,none⟩=some (i_ x.id):=A0 0 _ rfl;have c1:wr.cell? ⟨ab,ao+k*5+1,none⟩=some (i_ x.field):=A0 1 _ rfl;have c2:wr.cell? ⟨ab,ao+k*5+2,none⟩=some (i_ x.op):=A0 2 _ rfl;have c3:wr.cell? ⟨ab,ao+k*5+3,none⟩=some (.bool x.ref):=A0 3 _ rfl;have c4:wr.cell? ⟨ab,ao+k*5+4,none⟩=some (i_ x.n):=A0 4 _ rfl;have HX:=q_ hx;clear A3 hx A0;cases hq:q x
  ·have HQ:=q_ hq;clear hq;go_wp2_with fail;refine (HF.o x (List.mem_of_getElem? HX.o) wr hb).mono ?_;rintro e w' ⟨rfl,A1⟩;rw [HQ.o];go_wp2;go_roundw
   case rel =>
    refine ⟨k+1,o_,zb_,fun i y hi hy=>?_,hb.trans (A1.mono hb.size)⟩;by_cases hik:i=k
    ·exact ud_
    exact A2.o i y o_ hy
   case measure=>exact me_
  exact vg_
 obtain rfl:k=n:=by omega
 exact vv_
end SqXD
def GivesO (x:PO) (w:World) (e:Ending) (w':World):Prop:=∃ (A:OA) (n c:Nat),e=.returned (.agg #[i_ x.id,.slice A n c])/\Hid (w'.ownsRow w 38 2 (.slice A n c) n (x.s.flatMap Val.cells))/\n=x.s.length/\Below w w w'
def getO (id:Int) (l:List PO):PO:=match idx id l with | some i=>(match l[i]? with | some x=>x | none=>⟨0,[]⟩) | none=>⟨0,[]⟩
def getB (id:Int) (l:List PO):Bool:=(idx id l).isSome
def GivesB (x:PO) (b:Bool) (w:World) (e:Ending) (w':World):Prop:=∃ (A:OA) (n c:Nat),e=.returned (.tuple #[.agg #[i_ x.id,.slice A n c],.bool b])/\n<=8796093021952/\Hid (Sl w' w' 2 Val.cells A n x.s)/\Hid (∀ ad,A=some ad->w<=ad.block)/\Below w w w'
theorem object_any (x:Ob) (w:World) (hx:Sl w w 2 Val.cells x.A x.n x.s) (hn:x.n<=8796093021952) :
  Calls prog 179 #[.agg #[i_ x.id,.slice x.A x.n x.c]] w (GivesO x.po w):=by
 obtain ⟨id,A,n,c,s⟩:=x;simp only at hx hn ⊢;obtain ⟨i0,hi,A9,Aa,Ab⟩:=info_parts CloneVal.infoE;obtain ⟨w2,A0⟩:=ex_ ((w.alloc (.cells #[i_ id,.slice A n c] 90)).alloc (.cells #[i_ 0,.slice none 0 0] 90));have A5:Below w w w2:=by rw [A0];exact (bel (b_))
 have Ac:(w2:Nat)=w+2:=by rw [A0];simp
 have c0:w2.cell? (a_ w)=some (i_ id):=by rw [A0,al_ _ _ _ _ t_,ar_ _ _ _ _ _ rfl];rfl
 have c1:w2.cell? (f_ w 1)=some (.slice A n c):=by rw [A0,al_ _ _ _ _ t_,ar_ _ _ _ _ _ rfl];rfl
 have d0:w2.cell? (a_ (w+1))=some (i_ 0):=by rw [A0,ar_ _ _ _ _ _ t_];rfl
 have d1:w2.cell? (f_ (w+1) 1)=some (.slice none 0 0):=by rw [A0,ar_ _ _ _ _ _ t_];rfl
 have f0:∀ j,w2.frozen? (f_ (w+1) j)=false:=fun j=>by rw [A0,bu_ _ _ _ _ _ t_]
 have f1:∀ j,w2.frozen? (f_ w j)=false:=fun j=>by rw [A0,et_ _ _ _ _ t_,bu_ _ _ _ _ _ t_]
 have A7:=q_ (hx.up A5);have HS:=q_ (A7.o.src Val.size);have HL:=q_ hx.len;clear hx;go_enter func179,ntmps179;go_wp2_with (at_builtin;rw [<-A0];refine bt_ rfl _ _ 88 rfl w2 38 i0 _ 2 16 underlying88 hi A9 Aa Ab rfl d_ (.slice none 0 0) 0 [] zc_ (World.ownsRow_nil _ _ _ _) A n c (s.flatMap Val.cells) zc_ HS.o.1 (by rw [cj_ Val.size,HL.o]) HS.o.2 (val_one s) m_ o_ (l_) ?_;intro A3 c3 w3 A2 A4 A8;have H3:=q_ A2;have A1:Below w2 w2 w3:=(b_).grown A4 (l_) (fun k hk=>by cases hk);have e0:=(belc A1 (b:=w) (o:=0) o_).trans c0;have e1:=(belc A1 (b:=w) (o:=1) o_).trans c1;have e2:=(belc A1 (b:=w+1) (o:=0) o_).trans d0;have e3:=(belc A1 (b:=w+1) (o:=1) o_).trans d1;have g0:=(belf A1 (b:=w+1) (o:=0) o_).trans (f0 0);have g1:=(belf A1 (b:=w+1) (o:=1) o_).trans (f0 1);have g2:=(belf A1 (b:=w) (o:=1) o_).trans (f1 1);clear A2 A4 A8);refine bodyPost_ret (v:=.agg #[i_ id,.slice A3 n c3]) (by simp [results,results179,go_sem,e2,e3]) rfl ?_;have A6:∀ p:Addr,p.block<w2->(Value.slice A3 n c3).ownBlock≠some p.block:=fun p hp h=>by
  have:=(am_ (own_eq (Nat.zero_add n) H3.o) h).1;omega
 refine ⟨A3,n,c3,rfl,q_ (own_mono (cl_ (cl_ (cl_ (own_eq (Nat.zero_add n) H3.o) _ (A6 _ xm_)) _ (A6 _ (by show (w:Nat)+1<_;omega))) _ (A6 _ (by show (w:Nat)+1<_;omega))) o_),HL.o.symm,?_⟩;exact (((A5.trans (A1.mono A5.size)).setCell t_ _).setCell t_ _).setCell t_ _
theorem refget_any (A:OA) (n c:Nat) (l:List Ob) (id:Int) (w:World) (hs:Hp w w.heap.size A n l) (hn:n<=9000000000000) :
  Calls prog 133 #[.agg #[.slice A n c],i_ id] w (GivesB (getO id (l.map Ob.po)) (getB id (l.map Ob.po)) w):=by
 have HO:=q_ hs.obs;obtain ⟨w2,A1⟩:=ex_ ((w.alloc (.cells #[.slice A n c] 35)).alloc (.cells #[i_ 0,.slice none 0 0] 90));have A9:Below w.heap.size w w2:=by rw [A1];exact (bel (b_))
 have Al:w2.heap.size=w.heap.size+2:=by rw [A1];simp
 have HC:=h_ (w2.cell? (a_ w.heap.size)=some (.slice A n c)) (by rw [A1,al_ _ _ _ _ t_,ar_ _ _ _ _ _ rfl];rfl);have Ae:=h_ (w2.cell? (a_ (w.heap.size+1))=some (i_ 0)) (by rw [A1,ar_ _ _ _ _ _ t_];rfl);have Af:=h_ (w2.cell? (f_ (w.heap.size+1) 1)=some (.slice none 0 0)) (by rw [A1,ar_ _ _ _ _ _ t_];rfl);have HF:=h_ (∀ j,w2.frozen? (f_ (w.heap.size+1) j)=false) (fun j=>by rw [A1,bu_ _ _ _ _ _ t_]);have Ag:=q_ (hs.sl.up A9);go_enter func133,ntmps133;go_wp2_with fail;rw [<-A1];have HW:=q_ A1;clear A1;refine (refat_any A n c l id w2 Ag.o hn).mono ?_;rintro e w3 ⟨rfl,A2⟩;have e0:w3.cell? (a_ w.heap.size)=some (.slice A n c):=(belc A2 o_).trans HC.o;have e1:w3.cell? (a_ (w.heap.size+1))=some (i_ 0):=(belc A2 o_).trans Ae.o;have e2:w3.cell? (f_ (w.heap.size+1) 1)=some (.slice none 0 0):=(belc A2 o_).trans Af.o;have f0:w3.frozen? (a_ (w.heap.size+1))=false:=(belf A2 o_).trans (HF.o 0);have f1:w3.frozen? (f_ (w.heap.size+1) 1)=false:=(belf A2 o_).trans (HF.o 1);have A3:Below w.heap.size w w3:=A9.trans (A2.mono A9.size);have Am:=A2.size;rcases bm_ id (l.map Ob.po) with ⟨hi,_⟩ | ⟨i,x,hi,hx,hxid,hfst⟩
 ·have A6:=h_ (getO id (l.map Ob.po)=⟨0,[]⟩) (by rw [getO,hi]);have A7:=h_ (getB id (l.map Ob.po)=false) (by rw [getB,hi];rfl);have HI:=h_ (idxI id (l.map Ob.po)=-1) yy_;clear hi;rw [HI.o];go_wp2;refine bodyPost_ret (v:=.tuple #[.agg #[i_ 0,.slice none 0 0],.bool false]) (by simp [results,results133,go_sem,e1,e2]) rfl ?_;rw [A6.o,A7.o];exact ⟨none,0,0,rfl,o_,q_ Sl.nil,q_ (fun _ h=>by cases h),(bel A3)⟩
 clear hxid hfst;obtain ⟨o,ho,rfl⟩:=po_at' hx;have hin:i<n:=by rw [<-hs.sl.len];exact (e_ ho).1
 obtain ⟨o1,o2⟩:=HO.o o (List.mem_of_getElem? ho);obtain ⟨ab,ao,rfl,Ac,A8⟩:=hs.sl.at_ o_;have c0:w3.cell? ⟨ab,ao+i*2,none⟩=some (i_ o.id):=(belc A3 Ac).trans (A8 i o ho 0 _ rfl);have c1:w3.cell? ⟨ab,ao+i*2+1,none⟩=some (.slice o.A o.n o.c):=(belc A3 Ac).trans (A8 i o ho 1 _ rfl);have HI:=h_ (idxI id (l.map Ob.po)=i) yy_;have A6:=h_ (getO id (l.map Ob.po)=o.po) (by rw [getO,hi];simp only [hx]);have A7:=h_ (getB id (l.map Ob.po)=true) (by rw [getB,hi];rfl);have O3:=q_ (o1.up A3);have Ah:=q_ o1.len;have Ak:¬(i:Int)<0:=by omega
 clear A8 hx ho hi o1;rw [HI.o];go_wp2_with fail;refine (object_any o w3 O3.o o2).mono ?_;rintro e w4 ⟨A4,n4,c4,rfl,A0,Ad,A5⟩;have g1:w4.cell? (a_ (w.heap.size+1))=some (i_ 0):=(belc A5 o_).trans e1;have g2:w4.cell? (f_ (w.heap.size+1) 1)=some (.slice none 0 0):=(belc A5 o_).trans e2;have k0:w4.frozen? (a_ (w.heap.size+1))=false:=(belf A5 o_).trans f0;have k1:w4.frozen? (f_ (w.heap.size+1) 1)=false:=(belf A5 o_).trans f1;have Aj:=A3.trans (A5.mono A3.size);have Aa:=q_ Ad;clear Ad;go_wp2;refine bodyPost_ret (v:=.tuple #[.agg #[i_ o.id,.slice A4 n4 c4],.bool true]) (by simp [results,results133,go_sem,g1,g2,Ob.po]) rfl ?_;rw [A6.o,A7.o];have Ab:(Value.slice A4 n4 c4).ownBlock≠some (w.heap.size+1):=fun h=>by
  have:=(am_ A0.o h).1;omega
 refine ⟨A4,n4,c4,rfl,?_,q_ (Sl.da_ Val.size Aa.o.symm (cl_ (cl_ A0.o _ Ab) _ Ab)),q_ (fun ad Ai=>by subst Ai;have:=(am_ A0.o (k:=ad.block) rfl).1;omega),(bel Aj)⟩;have h1:=Aa.o;have h2:o.s.length=o.n:=Ah.o;have h3:o.po.s.length=o.s.length:=rfl;omega
namespace SqXT
def idx (q:Sq.Cl->Bool):List Sq.Cl->Int
 | []=>-1
 | x :: l=>if q x then 0 else if idx q l<0 then -1 else idx q l+1
theorem idx_no {q:Sq.Cl->Bool}:∀ {l:List Sq.Cl},(∀ (i:Nat) (x:Sq.Cl),l[i]?=some x->q x=false)->idx q l=-1
 | [],_=>rfl
 | x :: l,h=>by
  exact vz_
theorem idx_at {q:Sq.Cl->Bool}:∀ {l:List Sq.Cl} {k:Nat} {x:Sq.Cl},l[k]?=some x->q x=true->(∀ (i:Nat) (y:Sq.Cl),i<k->l[i]?=some y->q y=false)->idx q l=k
 | [],k,x,h,_,_=>by simp at h
 | y :: l,0,x,h,hq,_=>by simp at h;subst h;simp [idx,hq]
 | y :: l,k+1,x,h,hq,hb=>by
  exact vo_
theorem bm_ (q:Sq.Cl->Bool):∀ l:List Sq.Cl,(idx q l=-1/\∀ (i:Nat) (x:Sq.Cl),l[i]?=some x->q x=false)\/∃ (k:Nat) (x:Sq.Cl),idx q l=k/\k<l.length/\l[k]?=some x/\q x=true/\∀ (i:Nat) (y:Sq.Cl),i<k->l[i]?=some y->q y=false
 | []=>.inl ⟨rfl,fun i x h=>by simp at h⟩
 | x :: l=>by
  cases hq:q x with
  | true=>exact .inr ⟨0,x,by simp [idx,hq],zj_,rfl,hq,fun i y hi=>absurd hi o_⟩
  | false =>
   rcases bm_ q l with ⟨h,hn⟩ | ⟨k,y,h,hk,hy,hqy,hb⟩
   ·refine .inl ⟨w0_,fun i y hy=>?_⟩
    match i,hy with
    | 0,hy=>simp at hy;subst hy;exact hq
    | i+1,hy=>exact hn i y z0_
   refine .inr ⟨k+1,y,y8_,zp_,z0_,hqy,fun i z hi hz=>?_⟩
   match i,hz with
   | 0,hz=>simp at hz;subst hz;exact hq
   | i+1,hz=>exact hb i z o_ yk_
theorem any (A:OA) (n c:Nat) (l:List Sq.Cl) (q:Sq.Cl->Bool) (p p2 p3 p4:Nat) (w:World) (hs:Sl w w 4 Sq.Cl.cells A n l) (hn:n<=9223372036854775807)
  (hf:∀ x,x ∈ l->∀ w',Below w w w'->Calls prog 48 #[.agg #[i_ x.id,i_ x.field,.bool x.ref,i_ x.n],.pointer (some (a_ p)),.pointer (some (a_ p2)),.pointer (some (a_ p3)),.pointer (some (a_ p4))] w' fun e w''=>e=.returned (.bool (q x))/\Below w' w' w'') :
  Calls prog 94 #[.slice A n c,.func (.func 48) #[] #[.pointer (some (a_ p)),.pointer (some (a_ p2)),.pointer (some (a_ p3)),.pointer (some (a_ p4))]] w fun e w'=>e=.returned (i_ (idx q l))/\Below w w w':=by
 have HL:=q_ hs.len;have HF:=q_ hf;clear hf;go_enter func94,ntmps94;go_wp2_with fail;go_loopw [8] (fun i wr=>∃ k:Nat,k<=n/\i=i_ k/\Hid (∀ (i:Nat) (x:Sq.Cl),i<k->l[i]?=some x->q x=false)/\Below w w wr) (fun i _=>n - (intOf i).toNat)
 case atStart=>exact ⟨0,Nat.zero_le _,rfl,xv_,b_⟩
 obtain ⟨k,hk,rfl,A2,hb⟩:=hrel;by_cases hlt:k<n
 ·obtain ⟨ab,ao,rfl,A5,A3⟩:=hs.at_ o_;obtain ⟨x,hx⟩:∃ x,l[k]?=some x:=⟨_,ge_ z8_⟩;have A0:∀ (j:Nat) (u:Value),(Sq.Cl.cells x)[j]?=some u->wr.cell? ⟨ab,ao+(k*4+j),none⟩=some u:=fun j u hu=>(hb.cell (p:=(f_ ab _)) A5).trans (A3 k x hx j u hu)
  have c0:wr.cell? ⟨ab,ao+k*4,none⟩=some (i_ x.id):=A0 0 _ rfl;have c1:wr.cell? ⟨ab,ao+k*4+1,none⟩=some (i_ x.field):=A0 1 _ rfl;have c2:wr.cell? ⟨ab,ao+k*4+2,none⟩=some (.bool x.ref):=A0 2 _ rfl;have c3:wr.cell? ⟨ab,ao+k*4+3,none⟩=some (i_ x.n):=A0 3 _ rfl;have HX:=q_ hx;clear A3 hx A0;cases hq:q x
  ·have HQ:=q_ hq;clear hq;go_wp2_with fail;refine (HF.o x (List.mem_of_getElem? HX.o) wr hb).mono ?_;rintro e w' ⟨rfl,A1⟩;rw [HQ.o];go_wp2;go_roundw
   case rel =>
    refine ⟨k+1,o_,zb_,fun i y hi hy=>?_,hb.trans (A1.mono hb.size)⟩;by_cases hik:i=k
    ·exact ud_
    exact A2.o i y o_ hy
   case measure=>exact me_
  exact vg_
 obtain rfl:k=n:=by omega
 exact vv_
end SqXT
end Go.Proofs.YtfolidlmgfhkiaaGreat
namespace Go.Proofs.YtfolidlmgfhkiaaGreat
open Go.RowKit
def Bx (w:World) (b:Nat) (cs:VL):Prop:=b<w/\(∀ (j:Nat) (v:Value),cs[j]?=some v->w.cell? (f_ b j)=some v)/\∀ j,w.frozen? (f_ b j)=false
section
variable {X Y:NP} {w w':World} {b K K':Nat} {cs:VL}
theorem Bx.new (w:World) (cs:VL) (t:TypeId):Bx (w.alloc (.cells cs.toArray t)) w cs :=
 ⟨zj_,fun j v hv=>by rw [ar_ _ _ _ _ _ rfl];simpa using hv,fun j=>bu_ _ _ _ _ _ rfl⟩
theorem Bx.kp (h:Bx w b cs) (hk:Kp X w w') (hx:¬X b):Bx w' b cs:=⟨lt_ h.1 hk.size,fun j v hv=>(hk.cell h.1 hx).trans (h.2.1 j v hv),fun j=>(hk.frozen h.1 hx).trans (h.2.2 j)⟩
theorem Bx.below (h:Bx w b cs) (hb:Below w w w'):Bx w' b cs:=h.kp (X:=fun _=>False) (.of_below hb) (fun h=>h)
theorem Bx.alloc (h:Bx w b cs) (o:Obj):Bx (w.alloc o) b cs:=h.kp ((Kp.refl (fun _=>False) w).alloc o) (fun h=>h)
theorem Bx.drew (h:Bx w b cs):Bx w.drew b cs:=h.kp ((Kp.refl (fun _=>False) w).drew) (fun h=>h)
theorem Bx.set (h:Bx w b cs) (k:Nat) (u:Value):Bx (w.setCell (f_ b k) u) b (cs.set k u):=by
 refine ⟨by simpa [World.setCell] using h.1,fun j v hv=>?_,fun j=>by rw [World.frozen?_setCell];exact h.2.2 j⟩;rw [gs_] at hv;by_cases hk:k=j
 ·subst hk;rw [if_pos rfl] at hv;split at hv
  ·rename_i hlt
   injection hv with hv;subst hv;exact World.cell?_setCell_same _ _ _ (h.2.1 k _ (ge_ hlt))
  cases hv
 rw [if_neg hk] at hv;rw [bh_ _ _ _ _ (by intro e;injection e with _ e;exact hk e)];exact h.2.1 j v hv
theorem Bx.far (h:Bx w b cs) {p:Addr} (hp:p.block≠b) (u:Value):Bx (w.setCell p u) b cs :=
 ⟨by simpa [World.setCell] using h.1,fun j v hv=>(World.cell?_setCell_other w p _ u (fun e=>hp xq_)).trans (h.2.1 j v hv),fun j=>by rw [World.frozen?_setCell];exact h.2.2 j⟩
theorem Bx.there (h:Bx w b cs) {o n:Nat} (ho:o+n<=cs.length):w.there b o n:=fun j hj=>by
 refine ⟨?_,h.2.2 _⟩;rw [h.2.1 (o+j) _ (ge_ o_)];rfl
theorem Bx.range (h:Bx w b cs) (o n:Nat):w.rangeAt b o ((cs.drop o).take n):=fun j v hv=>by
 rw [List.getElem?_take] at hv;split at hv
 ·rw [List.getElem?_drop] at hv;exact h.2.1 _ v hv
 cases hv
theorem Bx.whole (h:Bx w b cs):w.rangeAt b 0 cs:=fun j v hv=>by rw [Nat.zero_add];exact h.2.1 j v hv
theorem setCells_size (b:Nat):∀ (vs:VL) (o:Nat) (w:World),(w.setCells b o vs).heap.size=w
 | [],_,_=>rfl
 | v :: r,o,w=>by rw [World.setCells,setCells_size b r (o+1)];simp [World.setCell]
theorem ag_ {X:NP} (b:Nat):∀ (vs:VL) (o:Nat) {w0 w:World},Kp X w0 w->(X b\/w0<=b)->Kp X w0 (w.setCells b o vs)
 | [],_,_,_,h,_=>h
 | v :: r,o,w0,w,h,hb=>by rw [World.setCells];exact ag_ b r (o+1) (h.setCell (p:=⟨b,o,none⟩) hb v) hb
theorem Bx.put (h:Bx w b cs) (o:Nat) (vs:VL) (hv:o+vs.length<=cs.length):Bx (w.setCells b o vs) b (splice cs o vs):=by
 refine ⟨by rw [setCells_size];exact h.1,fun j v hj=>?_,fun j=>by rw [World.frozen?_setCells];exact h.2.2 j⟩;unfold splice at hj;have A0:(cs.take o).length=o:=by rw [List.length_take];omega
 by_cases h1:j<o
 ·rw [List.getElem?_append_left (by rw [A0];exact h1),List.getElem?_take,if_pos h1] at hj;rw [World.cell?_setCells_out b vs o w (f_ b j) (fun _ _=>.inl h1)];exact h.2.1 j v hj
 rw [List.getElem?_append_right yi_,A0] at hj;by_cases h2:j - o<vs.length
 ·rw [List.getElem?_append_left h2] at hj;have:=World.rangeAt_setCells_same w b o vs (h.there hv) (j - o) v hj
  rwa [show o+(j - o)=j from by omega] at this
 rw [List.getElem?_append_right o_,List.getElem?_drop] at hj;rw [World.cell?_setCells_out b vs o w (f_ b j) (fun _ _=>.inr (by show o+vs.length<=j;omega))];rw [show o+vs.length+(j - o - vs.length)=j from by omega] at hj;exact h.2.1 j v hj
theorem splice_all {α:Type} {cs vs:List α} (h:vs.length=cs.length):splice cs 0 vs=vs:=by
 unfold splice;simp [<-h]
theorem Bx.all (h:Bx w b cs) (vs:VL) (hv:vs.length=cs.length):Bx (w.setCells b 0 vs) b vs:=by
 have:=h.put 0 vs o_
 rwa [splice_all hv] at this
theorem Bx.others (h:Bx w b cs) {b' o:Nat} (hb:b'≠b) (vs:VL):Bx (w.setCells b' o vs) b cs :=
 ⟨by rw [setCells_size];exact h.1,fun j v hv=>by rw [World.cell?_setCells_out b' vs o w (f_ b j) (fun e _=>absurd e.symm hb)];exact h.2.1 j v hv,fun j=>by rw [World.frozen?_setCells];exact h.2.2 j⟩
theorem VTs.part {ts:List CT} {vs:VL} (h:VTs w X K ts vs) (o n:Nat):VTs w X K ((ts.drop o).take n) ((vs.drop o).take n):=by
 refine ⟨by simp [h.1],fun j t hj=>?_⟩;rw [List.getElem?_take] at hj;split at hj
 ·rename_i hlt
  rw [List.getElem?_drop] at hj;obtain ⟨u,hu,hv⟩:=h.2 _ t hj;exact ⟨u,by rw [List.getElem?_take,if_pos hlt,List.getElem?_drop];exact hu,hv⟩
 cases hj
end
section
variable {P:Program} {ops:Array Oper} {rest:List Oper} {op:Oper} {a:Act} {w:World} {Q:Exit->Act->World->Prop} {b o:Nat} {cs:VL}
theorem ac_ (hgd:op.guard=none) (ty:TypeId) (x:Operand) (ho:op.op=.load ty x) (d:TypeDesc) (hu:P.underlying ty=some d) (hd:d.isRow=true) (hx:a.eval x=.pointer (some (f_ b o))) (hc:w.rangeAt b o cs) (hi:(P.info? ty).map (·.size)=some cs.length)
  (h:wpList P ops Q rest (a.put op.dst (.agg cs.toArray)) w):wpList P ops Q (op :: rest) a w :=
 wpList_load_mid hgd ty x ho b o hx cs d hc hu hd hi h
theorem ab_ (hgd:op.guard=none) (ty:TypeId) (x y:Operand) (ho:op.op=.store ty x y) (vs:VL) (hx:a.eval x=.pointer (some (f_ b o))) (hy:a.eval y=.agg vs.toArray) (ht:w.there b o vs.length) (hi:(P.info? ty).map (·.size)=some vs.length) (h1:∀ u ∈ vs,u.oneCell'=true)
  (h:wpList P ops Q rest (a.put op.dst undef) (w.setCells b o vs)):wpList P ops Q (op :: rest) a w :=
 wpList_store_mid hgd ty x y ho b o vs.toArray hx hy (by rw [List.size_toArray];exact ht) (by rw [List.size_toArray];exact hi) (by simpa using h1) yp_
end
def RB (e:Ending):Prop:=∃ b,e=.returned (.bool b)
def RN (e:Ending):Prop:=∃ n:Int,e=.returned (i_ n)
def RA (X:NP) (K:Nat) (ts:List CT) (e:Ending) (w:World):Prop:=∃ vs,e=.returned (.agg vs.toArray)/\VTs w X K ts vs
def RAT (X:NP) (K:Nat) (ts:List CT) (t:CT) (e:Ending) (w:World):Prop:=∃ vs v,e=.returned (.tuple #[.agg vs.toArray,v])/\VTs w X K ts vs/\VT w X K t v
/- Results that stand in cells. -/
section
variable {P:Program} {fn:Func} {R:Ending->World->Prop} {a:Act} {w:World} {b o:Nat} {cs:VL} {p u t:Nat} {d:TypeDesc}
theorem results_C (h:fn.results=#[.cell p t]) {tmps:Array Value} (ha:tmps.getD p undef=.pointer (some (f_ b o))) (hu:P.underlying t=some d) (hd:d.isRow=true) (hi:(P.info? t).map (·.size)=some cs.length) (hc:w.rangeAt b o cs) :
  (results fn tmps).run P w=.ok (.agg cs.toArray) w:=by
 exact ug_
theorem results_CT (h:fn.results=#[.cell p t,.tmp u]) {tmps:Array Value} (ha:tmps.getD p undef=.pointer (some (f_ b o))) (hu:P.underlying t=some d) (hd:d.isRow=true) (hi:(P.info? t).map (·.size)=some cs.length) (hc:w.rangeAt b o cs) :
  (results fn tmps).run P w=.ok (.tuple #[.agg cs.toArray,tmps.getD u undef]) w:=by
 exact ug_
theorem retC (h:fn.results=#[.cell p t]) (ha:a.tmps.getD p undef=.pointer (some (f_ b o))) (hu:P.underlying t=some d) (hd:d.isRow=true) (hi:(P.info? t).map (·.size)=some cs.length) (hc:w.rangeAt b o cs) (hf:a.defers=[]) (hR:R (.returned (.agg cs.toArray)) w):bodyPost P fn R .ret a w :=
 bodyPost_ret (results_C h ha hu hd hi hc) hf hR
theorem cc_ (h:fn.results=#[.cell p t,.tmp u]) (ha:a.tmps.getD p undef=.pointer (some (f_ b o))) (hu:P.underlying t=some d) (hd:d.isRow=true) (hi:(P.info? t).map (·.size)=some cs.length) (hc:w.rangeAt b o cs) (hf:a.defers=[]) (hR:R (.returned (.tuple #[.agg cs.toArray,a.tmps.getD u undef])) w):bodyPost P fn R .ret a w :=
 bodyPost_ret (results_CT h ha hu hd hi hc) hf hR
end
/- The blocks that a function makes at its beginning. -/
theorem af_ (w:World) (c0:VL) (t0:TypeId):∃ W,W=w.alloc (.cells c0.toArray t0)/\Below w w W/\(W:Nat)=w+1/\Bx W w c0 :=
 ⟨_,rfl,(b_).alloc (l_) _,zj_,Bx.new w c0 t0⟩
theorem cb_ (w:World) (c0:VL) (t0:TypeId) (c1:VL) (t1:TypeId):∃ W,W=(w.alloc (.cells c0.toArray t0)).alloc (.cells c1.toArray t1)/\Below w w W/\(W:Nat)=w+2/\Bx W w c0/\Bx W (w+1) c1:=by
 obtain ⟨V,rfl,hb,hz,b0⟩:=af_ w c0 t0;refine ⟨_,rfl,hb.alloc o_ _,zj_,b0.alloc _,?_⟩;have:=Bx.new (w.alloc (.cells c0.toArray t0)) c1 t1
 rwa [hz] at this
theorem ei_ (w:World) (c0:VL) (t0:TypeId) (c1:VL) (t1:TypeId) (c2:VL) (t2:TypeId):∃ W,W=((w.alloc (.cells c0.toArray t0)).alloc (.cells c1.toArray t1)).alloc (.cells c2.toArray t2)/\Below w w W/\(W:Nat)=w+3/\Bx W w c0/\Bx W (w+1) c1/\Bx W (w+2) c2:=by
 obtain ⟨V,rfl,hb,hz,b0,b1⟩:=cb_ w c0 t0 c1 t1;refine ⟨_,rfl,hb.alloc o_ _,zj_,b0.alloc _,b1.alloc _,?_⟩;have:=Bx.new ((w.alloc (.cells c0.toArray t0)).alloc (.cells c1.toArray t1)) c2 t2
 rwa [hz] at this
theorem blocks4 (w:World) (c0:VL) (t0:TypeId) (c1:VL) (t1:TypeId) (c2:VL) (t2:TypeId) (c3:VL) (t3:TypeId):∃ W,W=(((w.alloc (.cells c0.toArray t0)).alloc (.cells c1.toArray t1)).alloc (.cells c2.toArray t2)).alloc (.cells c3.toArray t3)/\Below w w W/\(W:Nat)=w+4/\Bx W w c0/\Bx W (w+1) c1/\Bx W (w+2) c2/\Bx W (w+3) c3:=by
 obtain ⟨V,rfl,hb,hz,b0,b1,b2⟩:=ei_ w c0 t0 c1 t1 c2 t2;refine ⟨_,rfl,hb.alloc o_ _,zj_,b0.alloc _,b1.alloc _,b2.alloc _,?_⟩;have:=Bx.new (((w.alloc (.cells c0.toArray t0)).alloc (.cells c1.toArray t1)).alloc (.cells c2.toArray t2)) c3 t3
 rwa [hz] at this
structure XE where
 x:Nat->Prop
 e:World->Prop
abbrev x1 (X:NP):XE:=⟨X,fun _=>True⟩
instance:CoeFun XE (fun _=>Nat->Prop):=⟨XE.x⟩
instance:CoeOut XE (NP):=⟨XE.x⟩
structure SK (X:XE) where
 p:World->Value->Prop
 st:∀ w w' v,Kp X.x w w'->(X.e w->X.e w')->p w v->p w' v
def kAny (X:XE):SK X:=⟨fun _ _=>True,fun _ _ _ _ _ _=>trivial⟩
def RnK (P:Program) (Q:Exit->Act->World->Prop) (X:XE) (Inv:World->Prop) (κ:SK X) (o:Oper) (a:Act) (w:World):Prop:=∀ K:Act->World->Prop,(∀ v w',Kp X.x w w'->(X.e w->X.e w')->Inv w'->κ.p w' v->K (a.put o.dst v) w')->o.wp P a w K Q
def dsts (ops:Array Oper):List Nat:=ops.toList.filterMap (·.dst)
def wfOps (ops:Array Oper) (N:Nat):Bool:=(List.range ops.size).all fun i=>match ops[i]? with
 | none=>true
 | some o=>o.guard.isNone && o.after.toList.all (fun e=>decide (e.on<i)) && (match o.dst with | none=>true | some t=>decide (t<N) && (List.range ops.size).all fun j=>j == i || ((ops[j]?).bind (·.dst)) != some t)
section
variable {P:Program} {ops:Array Oper} {Q:Exit->Act->World->Prop} {X:XE} {Inv:World->Prop} {ks:Nat->SK X} {a0 a:Act} {w w':World} {listed:Array Bool}
structure SI (ops:Array Oper) (ks:Nat->SK X) (Inv:World->Prop) (a0:Act) (listed:Array Bool) (a:Act) (w:World):Prop where
 inv:Inv w
 sz:a.tmps.size=a0.tmps.size
 df:a.defers=a0.defers
 out:∀ t,t ∉ dsts ops->a.tmps.getD t undef=a0.tmps.getD t undef
 ok:∀ (i:Nat) (o:Oper) (t:Nat),listed.getD i true=true->ops[i]?=some o->o.dst=some t->(ks i).p w (a.tmps.getD t undef)
theorem wf_at {N i:Nat} {o:Oper} (h:wfOps ops N=true) (ho:ops[i]?=some o):o.guard=none/\(∀ e ∈ o.after,e.on<i)/\∀ t,o.dst=some t->t<N/\∀ (j:Nat) (oj:Oper),ops[j]?=some oj->oj.dst=some t->j=i:=by
 have hi:=(Array.getElem?_eq_some_iff.1 ho).1;have h1:=List.all_eq_true.1 h i (List.mem_range.2 hi);rw [ho] at h1;simp only [Bool.and_eq_true,Option.isNone_iff_eq_none] at h1;refine ⟨h1.1.1,fun e he=>?_,fun t ht=>?_⟩
 ·have:=List.all_eq_true.1 h1.1.2 e (by rwa [<-Array.mem_def]);exact of_decide_eq_true this
 have h2:=h1.2;rw [ht] at h2;simp only [Bool.and_eq_true,decide_eq_true_eq] at h2;refine ⟨h2.1,fun j oj hj hd=>?_⟩;have A0:=(Array.getElem?_eq_some_iff.1 hj).1;have h3:=List.all_eq_true.1 h2.2 j (List.mem_range.2 A0);rw [hj] at h3;simp only [Option.bind_some,hd,Bool.or_eq_true,beq_iff_eq,bne_self_eq_false,Bool.false_eq_true,or_false] at h3;exact h3
theorem getD_putK {a:Act} {d t:Nat} {v:Value} (hd:d<a.tmps.size):(a.put (some d) v).tmps.getD t undef=if t=d then v else a.tmps.getD t undef:=by
 show (a.tmps.setIfInBounds d v).getD t undef=_
 rw [Array.getD_eq_getD_getElem?,Array.getElem?_setIfInBounds,Array.getD_eq_getD_getElem?];by_cases h:t=d
 ·subst h;rw [if_pos rfl,if_pos rfl,if_pos hd];rfl
 rw [if_neg (fun e=>h e.symm),if_neg h]
theorem SI.step {i:Nat} {o:Oper} {v:Value} (h:SI ops ks Inv a0 listed a w) (hw:wfOps ops a0.tmps.size=true) (ho:ops[i]?=some o) (hk:Kp X.x w w') (he:X.e w->X.e w') (hi:Inv w') (hv:(ks i).p w' v):SI ops ks Inv a0 (listed.setIfInBounds i true) (a.put o.dst v) w':=by
 obtain ⟨hg,ha,hd⟩:=wf_at hw ho;cases hdst:o.dst with
 | none =>
  refine ⟨hi,h.sz,h.df,h.out,fun j oj t hj A0 ht=>?_⟩;show (ks j).p w' (a.tmps.getD t undef)
  by_cases hji:j=i
  ·subst hji;rw [ho] at A0;injection A0 with A0;subst A0;rw [hdst] at ht;cases ht
  exact tf_
 | some d =>
  obtain ⟨A1,A3⟩:=hd d hdst;rw [<-h.sz] at A1;have A2:d ∈ dsts ops:=List.mem_filterMap.2 ⟨o,by rw [<-Array.mem_def];exact Array.mem_of_getElem? ho,hdst⟩;refine ⟨hi,?_,h.df,fun t ht=>?_,fun j oj t hj A0 ht=>?_⟩
  ·show (a.tmps.setIfInBounds d v).size=_
   rw [Array.size_setIfInBounds];exact h.sz
  ·rw [getD_putK A1,if_neg (fun e=>ht (by rw [e];exact A2))];exact h.out t ht
  rw [getD_putK A1];by_cases hji:j=i
  ·subst hji;rw [ho] at A0;injection A0 with A0;subst A0;rw [hdst] at ht;injection ht with ht;subst ht;rw [if_pos rfl];exact hv
  by_cases htd:t=d
  ·subst htd;exact absurd (A3 j oj A0 ht) hji
  rw [if_neg htd];exact tf_
def StepK (P:Program) (ops:Array Oper) (Q:Exit->Act->World->Prop) (Inv:World->Prop) (ks:Nat->SK X) (a0:Act):Prop:=∀ (i:Nat) (o:Oper),ops[i]?=some o->∀ a w,Inv w->(∀ t,t ∉ dsts ops->a.tmps.getD t undef=a0.tmps.getD t undef) →
 (∀ j:Nat,o.after.toList.any (fun e=>Region.binds .any e && e.on == j)=true->∀ (oj:Oper) (t:Nat),ops[j]?=some oj->oj.dst=some t->(ks j).p w (a.tmps.getD t undef))->RnK P Q X Inv (ks i) o a w
theorem count_drop {p p':Nat->Bool} {i:Nat} (h1:p i=true) (h2:p' i=false) (h3:∀ j,j≠i->p' j=p j):∀ n,i<n->(List.range n).countP p'+1=(List.range n).countP p
 | 0,h=>by omega
 | n+1,h=>by
  rw [List.range_succ,List.countP_append,List.countP_append,List.countP_singleton,List.countP_singleton];by_cases e:i=n
  ·subst e;rw [h1,h2];have:(List.range i).countP p'=(List.range i).countP p:=List.countP_congr (fun j hj=>by rw [h3 j (by have:=List.mem_range.1 hj;omega)]);simp [this]
  rw [h3 n (fun e2=>e e2.symm)];have:=count_drop h1 h2 h3 n o_;omega
def unl (n:Nat) (listed:Array Bool):Nat:=(List.range n).countP (fun i=>!listed.getD i true)
theorem unl_zero {n:Nat} (h:unl n listed=0):∀ i,i<n->listed.getD i true=true:=fun i hi=>by
 have:=List.countP_eq_zero.1 h i (List.mem_range.2 hi)
 simpa using this
theorem unl_step {n i:Nat} (hi:i<n) (hl:listed.getD i true=false):unl n (listed.setIfInBounds i true)+1=unl n listed:=by
 have hsz:i<listed.size:=by
  rcases Nat.lt_or_ge i listed.size with h | h
  ·exact h
  rw [Array.getD_eq_getD_getElem?,Array.getElem?_eq_none h] at hl;cases hl
 refine count_drop (i:=i) (by rw [hl];rfl) ?_ (fun j hj=>?_) n hi
 ·rw [Array.getD_eq_getD_getElem?,Array.getElem?_setIfInBounds,if_pos rfl,if_pos hsz];rfl
 rw [Array.getD_eq_getD_getElem?,Array.getD_eq_getD_getElem?,Array.getElem?_setIfInBounds,if_neg (fun e=>hj e.symm)]
theorem all_done (hw:wfOps ops a0.tmps.size=true) (hz:listed.size=ops.size) (hr:Region.ready .any ops listed=[]):∀ i,i<ops.size->listed.getD i true=true:=fun i=>by
 induction i using Nat.strongRecOn with
 | ind i ih =>
  intro hi;cases hl:listed.getD i true
  ·exfalso;have hm:i ∈ Region.ready .any ops listed:=mem_ready.2 ⟨hl,ops[i],Array.getElem?_eq_getElem hi,fun e he _=>by
    have h1:=(wf_at hw (Array.getElem?_eq_getElem hi)).2.1 e he
    have h2:=ih e.on h1 o_
    rw [Array.getD_eq_getD_getElem?] at h2 ⊢
    have h3:e.on<listed.size:=by omega
    rw [Array.getElem?_eq_getElem h3] at h2 ⊢
    exact h2⟩
   rw [hr] at hm;cases hm
  rfl
theorem any_k (hw:wfOps ops a0.tmps.size=true) (hs:StepK P ops Q Inv ks a0) (fin:∀ a w,Inv w->a.tmps.size=a0.tmps.size->a.defers=a0.defers->(∀ t,t ∉ dsts ops->a.tmps.getD t undef=a0.tmps.getD t undef)->(∀ (i:Nat) (o:Oper) (t:Nat),ops[i]?=some o->o.dst=some t->(ks i).p w (a.tmps.getD t undef))->Q .normal a w) :
  ∀ (fuel:Nat) (listed:Array Bool) (a:Act) (w:World),SI ops ks Inv a0 listed a w->listed.size=ops.size->unl ops.size listed<=fuel->wpAny P .any ops Q fuel listed a w:=by
 have done:∀ (listed:Array Bool) (a:Act) (w:World),SI ops ks Inv a0 listed a w->(∀ i,i<ops.size->listed.getD i true=true)->Q .normal a w:=fun listed a w h ha =>
  fin a w h.inv h.sz h.df h.out (fun i o t ho ht=>h.ok i o t (ha i (Array.getElem?_eq_some_iff.1 ho).1) ho ht)
 intro fuel
 induction fuel with
 | zero =>
  intro listed a w h hz hu;have A0:=unl_zero (n:=ops.size) (listed:=listed) o_;refine ⟨?_,done listed a w h A0⟩;cases hr:Region.ready .any ops listed with
  | nil=>rfl
  | cons x xs =>
   exfalso;obtain ⟨h1,o,ho,_⟩:=mem_ready.1 (show x ∈ Region.ready .any ops listed from by rw [hr];exact .head _);rw [A0 x (Array.getElem?_eq_some_iff.1 ho).1] at h1;cases h1
 | succ fuel ih =>
  intro listed a w h hz hu;refine ⟨fun hr=>done listed a w h (all_done hw hz hr),fun i hi=>?_⟩;obtain ⟨h1,o,ho,h2⟩:=mem_ready.1 hi;have A4:=(Array.getElem?_eq_some_iff.1 ho).1;obtain ⟨hg,_,_⟩:=wf_at hw ho;refine wpOp_step ho (fun K hK=>?_);simp only [Region.wanted,hg,if_true];refine hs i o ho a w h.inv h.out (fun j hj oj t A5 ht=>h.ok j oj t ?_ A5 ht) K (fun v w' hk he A3 hv=>hK _ _ ?_)
  ·rw [List.any_eq_true] at hj;obtain ⟨e,he,A1⟩:=hj;rw [<-Array.mem_def] at he;obtain ⟨A2,A1⟩:Region.binds .any e=true/\e.on=j:=by simpa using A1
   subst A1;have h3:=h2 e he A2;have h4:e.on<listed.size:=by
    rcases Nat.lt_or_ge e.on listed.size with h | h
    ·exact h
    rw [Array.getD_eq_getD_getElem?,Array.getElem?_eq_none h] at h3;cases h3
   rw [Array.getD_eq_getD_getElem?,Array.getElem?_eq_getElem h4] at h3 ⊢;exact h3
  have h5:=unl_step (n:=ops.size) A4 h1;exact ih _ _ _ (h.step hw ho hk he A3 hv) yq_ o_
theorem dl_ {id:Nat} (hm:P.follows .mixedOrders=true) (hw:wfOps ops a0.tmps.size=true) (h0:Inv w.drew) (hs:StepK P ops Q Inv ks a0) (fin:∀ a w,Inv w->a.tmps.size=a0.tmps.size->a.defers=a0.defers->(∀ t,t ∉ dsts ops->a.tmps.getD t undef=a0.tmps.getD t undef)->(∀ (i:Nat) (o:Oper) (t:Nat),ops[i]?=some o->o.dst=some t->(ks i).p w (a.tmps.getD t undef))->Q .normal a w) :
  (Code.region id ops true).wp P Q a0 w:=by
 refine wp_region_any hm (any_k hw hs fin ops.size _ a0 _ ⟨h0,rfl,rfl,fun _ _=>rfl,fun i o t hl ho _=>?_⟩ t_ ?_)
 ·exact uv_
 unfold unl;have:=List.countP_le_length (p:=fun i=>!(Array.replicate ops.size false).getD i true) (l:=List.range ops.size)
 simpa using this
theorem list_k {id:Nat} (hw:wfOps ops a0.tmps.size=true) (hs:StepK P ops Q Inv ks a0) (fin:∀ a w,Inv w->a.tmps.size=a0.tmps.size->a.defers=a0.defers->(∀ t,t ∉ dsts ops->a.tmps.getD t undef=a0.tmps.getD t undef)->(∀ (i:Nat) (o:Oper) (t:Nat),ops[i]?=some o->o.dst=some t->(ks i).p w (a.tmps.getD t undef))->Q .normal a w) :
  ∀ (rest:List Oper) (k:Nat) (listed:Array Bool) (a:Act) (w:World),ops.toList.drop k=rest->listed.size=ops.size->(∀ j,j<ops.size->(listed.getD j true=true↔j<k))->SI ops ks Inv a0 listed a w->wpList P ops Q rest a w:=by
 intro rest
 induction rest with
 | nil =>
  intro k listed a w hd hz hl h;have hk:ops.size<=k:=by
   have:=congrArg List.length hd;simp at this;omega
  exact fin a w h.inv h.sz h.df h.out (fun i o t ho ht=>h.ok i o t ((hl i (Array.getElem?_eq_some_iff.1 ho).1).2 (by have:=(Array.getElem?_eq_some_iff.1 ho).1;omega)) ho ht)
 | cons o rest ih =>
  intro k listed a w hd hz hl h;have ho:ops[k]?=some o:=by
   have:(ops.toList.drop k)[0]?=some o:=by rw [hd];rfl
   rw [List.getElem?_drop] at this
   simpa using this
  have A4:=(Array.getElem?_eq_some_iff.1 ho).1;obtain ⟨hg,A0,_⟩:=wf_at hw ho;refine wpList_plain hg (fun K hK=>?_);refine hs k o ho a w h.inv h.out (fun j hj oj t A3 ht=>h.ok j oj t ?_ A3 ht) K (fun v w' hk he A2 hv=>hK _ _ ?_)
  ·rw [List.any_eq_true] at hj;obtain ⟨e,he,A1⟩:=hj;rw [<-Array.mem_def] at he;have A1:e.on=j:=(by simpa using A1:Region.binds .any e=true/\e.on=j).2;subst A1;exact (hl _ (by have:=A0 e he;omega)).2 (A0 e he)
  refine ih (k+1) (listed.setIfInBounds k true) _ _ ?_ yq_ (fun j hj=>?_) (h.step hw ho hk he A2 hv)
  ·rw [<-List.tail_drop,hd];rfl
  rw [Array.getD_eq_getD_getElem?,Array.getElem?_setIfInBounds];by_cases e:k=j
  ·subst e;rw [if_pos rfl,if_pos o_];simp
  rw [if_neg e,<-Array.getD_eq_getD_getElem?,hl j hj];omega
theorem be_ {id:Nat} (hw:wfOps ops a0.tmps.size=true) (h0:Inv w) (hs:StepK P ops Q Inv ks a0) (fin:∀ a w,Inv w->a.tmps.size=a0.tmps.size->a.defers=a0.defers->(∀ t,t ∉ dsts ops->a.tmps.getD t undef=a0.tmps.getD t undef)->(∀ (i:Nat) (o:Oper) (t:Nat),ops[i]?=some o->o.dst=some t->(ks i).p w (a.tmps.getD t undef))->Q .normal a w) :
  (Code.region id ops false).wp P Q a0 w:=by
 refine wp_region_list (list_k (id:=id) hw hs fin ops.toList 0 (Array.replicate ops.size false) a0 w rfl t_ (fun j hj=>?_) ⟨h0,rfl,rfl,fun _ _=>rfl,fun i o t hl ho _=>?_⟩)
 ·rw [Array.getD_eq_getD_getElem?,Array.getElem?_replicate,if_pos hj];simp
 exact uv_
theorem foldl_put (g:Nat->Value):∀ (D:List Nat) (a0:Act),(∀ t ∈ D,t<a0.tmps.size)->(D.foldl (fun b t=>b.put (some t) (g t)) a0).tmps.size=a0.tmps.size/\(D.foldl (fun b t=>b.put (some t) (g t)) a0).defers=a0.defers/\∀ t,(D.foldl (fun b t=>b.put (some t) (g t)) a0).tmps.getD t undef=if t ∈ D then g t else a0.tmps.getD t undef
 | [],a0,_=>⟨rfl,rfl,fun t=>by simp⟩
 | d :: D,a0,hD=>by
  have hs:(a0.put (some d) (g d)).tmps.size=a0.tmps.size:=by show (a0.tmps.setIfInBounds d (g d)).size=_;rw [Array.size_setIfInBounds]
  obtain ⟨h1,h2,h3⟩:=foldl_put g D (a0.put (some d) (g d)) (fun t ht=>by rw [hs];exact hD t (.tail _ ht));refine ⟨h1.trans hs,h2,fun t=>?_⟩;rw [List.foldl_cons,h3,getD_putK (hD d (.head _))];by_cases e:t ∈ D
  ·rw [if_pos e,if_pos (.tail _ e)]
  rw [if_neg e];by_cases e2:t=d
  ·subst e2;rw [if_pos rfl,if_pos (.head _)]
  rw [if_neg e2,if_neg (fun h=>by rcases List.mem_cons.1 h with h | h;exact e2 h;exact e h)]
theorem dj_ {a a0:Act} {D:List Nat} {g:Nat->Value} (hsz:a.tmps.size=a0.tmps.size) (hdf:a.defers=a0.defers) (hD:∀ t ∈ D,t<a0.tmps.size) (hout:∀ t,t ∉ D->a.tmps.getD t undef=a0.tmps.getD t undef) (hg:∀ t,a.tmps.getD t undef=g t):a=D.foldl (fun b t=>b.put (some t) (g t)) a0:=by
 obtain ⟨h1,h2,h3⟩:=foldl_put g D a0 hD;generalize D.foldl (fun b t=>b.put (some t) (g t)) a0=r at h1 h2 h3;obtain ⟨at_,ad⟩:=a;obtain ⟨rt,rd⟩:=r;have e1:ad=rd:=hdf.trans h2.symm;have e2:at_=rt:=by
  apply Array.ext (hsz.trans h1.symm);intro i A0 A1;have k1:=hout i;have k2:=hg i;have k3:=h3 i;simp only [Array.getD_eq_getD_getElem?,Array.getElem?_eq_getElem A0,Array.getElem?_eq_getElem A1,Option.getD_some] at k1 k2 k3;by_cases e:i ∈ D
  ·rw [if_pos e] at k3;rw [k2,k3]
  rw [if_neg e] at k3;rw [k1 e,k3]
 rw [e1,e2]
end
end Go.Proofs.YtfolidlmgfhkiaaGreat
