/- Lemmas on functions of the program, under the conditions that each states. -/
import Derived.Test.YtfolidlmgfhkiaaGreatV02
import Derived.RangeFuncNested
import Derived.RangeFuncBound
import Derived.RangeFuncLeaves
import Derived.Deep.WholeRow
import Derived.OwnWalkIn
import Derived.TacticsInMore
import Derived.LoopNIn
import Derived.LoopIn
set_option linter.unusedVariables false
set_option linter.unusedSimpArgs false
set_option maxRecDepth 100000
set_option maxHeartbeats 20000000
namespace Go.Proofs.YtfolidlmgfhkiaaGreat
open Go.RowKit
structure LV where
 b:Nat
 K:Nat->Nat
 ts:List CT
 ow:Nat->Option TypeId
def noOw:Nat->Option TypeId:=fun _=>none
structure Up (w:World) (Y:NP) (w':World) (Y':NP):Prop where
 kp:Kp Y w w'
 no:∀ k,k<w.heap.size->¬Y k->¬Y' k
section
variable {w w' w2:World} {Y Y' Y2:NP} {K K' n c:Nat} {t:CT} {v:Value} {A:OA} {e:List CT}
theorem Up.refl (w:World) (Y:NP):Up w Y w Y:=⟨Kp.refl _ _,fun _ _ h=>h⟩
theorem Up.trans (h:Up w Y w' Y') (h2:Up w' Y' w2 Y2):Up w Y w2 Y2 :=
 ⟨⟨h2.kp.os.trans h.kp.os,h2.kp.tape.trans h.kp.tape,h2.kp.output.trans h.kp.output,Nat.le_trans h.kp.size h2.kp.size,fun k hk hx=>(h2.kp.block k (lt_ hk h.kp.size) (h.no k hk hx)).trans (h.kp.block k hk hx)⟩,fun k hk hx=>h2.no k (lt_ hk h.kp.size) (h.no k hk hx)⟩
theorem Up.of_below (hb:Below w.heap.size w w'):Up w Y w' Y:=⟨.of_below hb,fun _ _ h=>h⟩
theorem Up.drew (h:Up w Y w' Y'):Up w Y w'.drew Y':=⟨h.kp.drew,h.no⟩
theorem Up.drewN (h:Up w Y w' Y') (m:Nat):Up w Y (w'.drewN m) Y':=⟨h.kp.drewN m,h.no⟩
theorem VT.go (h:VT w Y K t v) (u:Up w Y w' Y') (hK:K<=K'):VT w' Y' K' t v:=h.kept u.kp u.no hK
theorem VTs.go {ts:List CT} {vs:VL} (h:VTs w Y K ts vs) (u:Up w Y w' Y') (hK:K<=K'):VTs w' Y' K' ts vs:=h.kept u.kp u.no hK
theorem SlT.go (h:SlT w Y K e A n c) (u:Up w Y w' Y') (hK:K<=K'):SlT w' Y' K' e A n c:=h.kept u.kp u.no hK
theorem OwT.stay {base:Nat} {et:TypeId} (h:OwT w base et e Y K A n c) {row:Option Nat} (hg:w.grownBy w' row) (hr:∀ k,row=some k->Y k/\(Value.slice A n c).ownBlock≠some k):OwT w' base et e Y K A n c:=by
 obtain ⟨xs,ho,hx⟩:=h;refine ⟨xs,ho.kept hg (by cases row with | none=>cases (Value.slice A n c).ownBlock <;> simp | some k=>exact .inr (hr k rfl).2),fun k j t hk hj=>?_⟩;exact ur_
theorem OwT.sub {base:Nat} {et:TypeId} (h:OwT w base et e Y K A n c) (hY:∀ k,k<w.heap.size->Y' k->Y k\/(Value.slice A n c).ownBlock=some k) (hK:K<=K'):OwT w base et e Y' K' A n c:=by
 obtain ⟨xs,ho,hx⟩:=h;refine ⟨xs,ho,fun k j t hk hj=>?_⟩;obtain ⟨u,hu,hv⟩:=hx k j t hk hj;refine ⟨u,hu,hv.kept (Kp.refl _ w) (fun k hk hn hy=>hn ?_) hK⟩;rcases hy with hy | hy
 ·exact hY k hk hy
 exact .inr hy
theorem OwT.base_up {base base':Nat} {et:TypeId} (h:OwT w base et e Y K A n c) (hb:∀ g,(Value.slice A n c).ownBlock=some g->base'<=g):OwT w base' et e Y K A n c:=by
 obtain ⟨xs,ho,hx⟩:=h;refine ⟨xs,⟨ho.1,?_⟩,hx⟩;rcases ho.2 with h' | ⟨g,cap,cur,hv,hg,hr⟩
 ·exact .inl h'
 injection hv with h1 _ h3;subst h1 h3;exact .inr ⟨g,_,cur,rfl,hb g rfl,hr⟩
theorem nodup_eq {α:Type} {f:α->Nat}:∀ {l:List α},(l.map f).Nodup->∀ {p q:α},p ∈ l->q ∈ l->f p=f q->p=q
 | [],_,_,_,hp,_,_=>by cases hp
 | x :: r,hn,p,q,hp,hq,he=>by
  rw [List.map_cons,List.nodup_cons] at hn;rcases List.mem_cons.1 hp with h1 | hp
  ·rcases List.mem_cons.1 hq with h2 | hq
   ·rw [h1,h2]
   exact absurd (List.mem_map.2 ⟨q,hq,by rw [<-he,h1]⟩) hn.1
  rcases List.mem_cons.1 hq with h2 | hq
  ·exact absurd (List.mem_map.2 ⟨p,hp,by rw [he,h2]⟩) hn.1
  exact nodup_eq hn.2 hp hq he
end
structure Fr (X Z:NP) (w0:World) (L:List LV) (Y:NP) (C:Nat->VL) (w:World):Prop where
 kp:Kp Z w0 w
 sub:∀ k,X k->Y k
 lt:∀ k,Y k->k<w
 blk:∀ p ∈ L,Y p.b/\(w0<=p.b\/Z p.b)/\Bx w p.b (C p.b)/\(C p.b).length=p.ts.length
 val:∀ p ∈ L,∀ j t,p.ts[j]?=some t->p.ow j=none->∃ v,(C p.b)[j]?=some v/\VT w Y (p.K j) t v
 row:∀ p ∈ L,∀ j t et,p.ts[j]?=some t->p.ow j=some et->∃ e A n c,t=.sl e/\(C p.b)[j]?=some (.slice A n c)/\n<=p.K j/\OwT w 0 et e Y (p.K j) A n c/\∀ g,(Value.slice A n c).ownBlock=some g->Y g/\(w0<=g\/Z g)/\∀ q ∈ L,q.b≠g
 far:∀ p ∈ L,∀ q ∈ L,∀ i j u v g,(p.b≠q.b\/i≠j)->p.ow i≠none->q.ow j≠none->(C p.b)[i]?=some u->(C q.b)[j]?=some v->u.ownBlock=some g->v.ownBlock≠some g
 nd:(L.map LV.b).Nodup
def upd (C:Nat->VL) (b:Nat) (vs:VL):Nat->VL:=fun k=>if k=b then vs else C k
theorem upd_same (C:Nat->VL) (b:Nat) (vs:VL):upd C b vs b=vs:=if_pos rfl
theorem ad_ (C:Nat->VL) {b k:Nat} (vs:VL) (h:k≠b):upd C b vs k=C k:=if_neg h
section
variable {X Z Y:NP} {w0 w w':World} {L:List LV} {C:Nat->VL} {b i j:Nat} {K:Nat->Nat} {ts:List CT} {ow:Nat->Option TypeId} {t:CT} {v:Value}
theorem Fr.nil (hX:∀ k,X k->k<w) (Z:NP) (C:Nat->VL):Fr X Z w [] X C w :=
 ⟨Kp.refl _ _,fun _ h=>h,hX,(fun _ h=>by cases h),(fun _ h=>by cases h),(fun _ h=>by cases h),(fun _ h=>by cases h),List.nodup_nil⟩
theorem Fr.below (h:Fr X (fun _=>False) w0 L Y C w):Below w0 w0 w:=h.kp.below (l_) (fun _ _ h=>h)
theorem Fr.call (h:Fr X Z w0 L Y C w) (hb:Below w w w'):Fr X Z w0 L Y C w' :=
 ⟨h.kp.bb_ hb,h.sub,fun k hk=>lt_ (h.lt k hk) hb.size,
   fun p hp=>by obtain ⟨h1,h2,h3,h4⟩:=h.blk p hp;exact ⟨h1,h2,h3.below hb,h4⟩,
   fun p hp j t hj ho=>by obtain ⟨v,h1,h2⟩:=h.val p hp j t hj ho;exact ⟨v,h1,h2.up (.of_below hb) (l_)⟩,
   fun p hp j t et hj ho=>by
  obtain ⟨e,A,n,c,h1,h2,h3,h4,h5⟩:=h.row p hp j t et hj ho
  exact ⟨e,A,n,c,h1,h2,h3,h4.stay (cf_ hb none) (fun _ h=>by cases h),h5⟩,
   h.far,h.nd⟩
theorem Fr.drew (h:Fr X Z w0 L Y C w):Fr X Z w0 L Y C w.drew:=h.call (Below.drew (b_))
theorem Fr.alloc (h:Fr X Z w0 L Y C w) (o:Obj):Fr X Z w0 L Y C (w.alloc o):=h.call ((b_).alloc (l_) o)
theorem Fr.mem (hp:L[i]?=some ⟨b,K,ts,ow⟩):(⟨b,K,ts,ow⟩:LV) ∈ L:=List.mem_of_getElem? hp
/- What the variables hold. -/
theorem Fr.box (h:Fr X Z w0 L Y C w) (hp:L[i]?=some ⟨b,K,ts,ow⟩):Bx w b (C b):=(h.blk _ (Fr.mem hp)).2.2.1
theorem Fr.len (h:Fr X Z w0 L Y C w) (hp:L[i]?=some ⟨b,K,ts,ow⟩):(C b).length=ts.length:=(h.blk _ (Fr.mem hp)).2.2.2
theorem Fr.fz (h:Fr X Z w0 L Y C w) (hp:L[i]?=some ⟨b,K,ts,ow⟩):∀ j,w.frozen? (f_ b j)=false:=(h.box hp).2.2
theorem Fr.cell (h:Fr X Z w0 L Y C w) (hp:L[i]?=some ⟨b,K,ts,ow⟩) (hv:(C b)[j]?=some v):w.cell? (f_ b j)=some v:=(h.box hp).2.1 j v hv
theorem Fr.get (h:Fr X Z w0 L Y C w) (hp:L[i]?=some ⟨b,K,ts,ow⟩) (hj:ts[j]?=some t) (ho:ow j=none):∃ v,(C b)[j]?=some v/\w.cell? (f_ b j)=some v/\VT w Y (K j) t v:=by
 obtain ⟨v,h1,h2⟩:=h.val _ (Fr.mem hp) j t hj ho;exact ⟨v,h1,h.cell hp h1,h2⟩
theorem Fr.num (h:Fr X Z w0 L Y C w) (hp:L[i]?=some ⟨b,K,ts,ow⟩) (hj:ts[j]?=some .num) (ho:ow j=none):∃ n,w.cell? (f_ b j)=some (i_ n)/\(C b)[j]?=some (i_ n):=by
 obtain ⟨v,h0,h1,h2⟩:=h.get hp hj ho;obtain ⟨n,rfl⟩:=h2.int;exact ⟨n,h1,h0⟩
theorem Fr.tru (h:Fr X Z w0 L Y C w) (hp:L[i]?=some ⟨b,K,ts,ow⟩) (hj:ts[j]?=some .tru) (ho:ow j=none):∃ n,w.cell? (f_ b j)=some (.bool n)/\(C b)[j]?=some (.bool n):=by
 obtain ⟨v,h0,h1,h2⟩:=h.get hp hj ho;obtain ⟨n,rfl⟩:=h2.bool;exact ⟨n,h1,h0⟩
theorem Fr.slc {e:List CT} (h:Fr X Z w0 L Y C w) (hp:L[i]?=some ⟨b,K,ts,ow⟩) (hj:ts[j]?=some (.sl e)) (ho:ow j=none):∃ A n c,w.cell? (f_ b j)=some (.slice A n c)/\SlT w Y (K j) e A n c/\(C b)[j]?=some (.slice A n c):=by
 obtain ⟨v,h0,h1,h2⟩:=h.get hp hj ho;obtain ⟨A,n,c,rfl,hs⟩:=h2.slice;exact ⟨A,n,c,h1,hs,h0⟩
theorem Fr.own {e:List CT} {et:TypeId} (h:Fr X Z w0 L Y C w) (hp:L[i]?=some ⟨b,K,ts,ow⟩) (hj:ts[j]?=some (.sl e)) (ho:ow j=some et):∃ A n c,w.cell? (f_ b j)=some (.slice A n c)/\(C b)[j]?=some (.slice A n c)/\n<=K j/\OwT w 0 et e Y (K j) A n c/\(∀ g,(Value.slice A n c).ownBlock=some g->Y g):=by
 obtain ⟨e',A,n,c,h1,h2,h3,h4,h5⟩:=h.row _ (Fr.mem hp) j _ et hj ho;injection h1 with h1;subst h1;exact ⟨A,n,c,h.cell hp h2,h2,h3,h4,fun g hg=>(h5 g hg).1⟩
theorem Fr.whole {N:Nat} (h:Fr X Z w0 L Y C w) (hp:L[i]?=some ⟨b,fun _=>N,ts,noOw⟩):VTs w Y N ts (C b) :=
 ⟨h.len hp,fun j t hj=>h.val _ (Fr.mem hp) j t hj rfl⟩
theorem Fr.add (h:Fr X Z w0 L Y C w) (K:Nat->Nat) (ts:List CT) (ow:Nat->Option TypeId) (vs:VL) (ty:TypeId) (hl:vs.length=ts.length)
  (hv:∀ j t,ts[j]?=some t->∃ v,vs[j]?=some v/\((ow j=none/\VT w Y (K j) t v)\/∃ et e,ow j=some et/\t=.sl e/\v=.slice none 0 0)) :
  ∃ Y',Fr X Z w0 (⟨w.heap.size,K,ts,ow⟩ :: L) Y' (upd C w.heap.size vs) (w.alloc (.cells vs.toArray ty))/\Up w Y (w.alloc (.cells vs.toArray ty)) Y':=by
 have hB:Below w.heap.size w (w.alloc (.cells vs.toArray ty)):=(b_).alloc (l_) _;have Aa:∀ k,k<w.heap.size->¬Y k->¬(Y k\/k=w.heap.size):=fun k hk h1 h2=>by rcases h2 with h2 | h2;exact h1 h2;omega
 have A5:Up w Y (w.alloc (.cells vs.toArray ty)) (fun k=>Y k\/k=w.heap.size):=⟨.of_below hB,Aa⟩;have hne:∀ p ∈ L,p.b≠w.heap.size:=fun p hp=>Nat.ne_of_lt (h.lt _ (h.blk p hp).1)
 have h':=h.call hB;refine ⟨fun k=>Y k\/k=w,⟨h'.kp,fun k hk=>.inl (h.sub k hk),fun k hk=>?_,fun p hp=>?_,fun p hp j t hj ho=>?_,fun p hp j t et hj ho=>?_,fun p hp q hq i j u v g A4 A6 A3 hi hj hu=>?_,?_⟩,A5⟩
 ·rcases hk with hk | hk
  ·exact h'.lt k hk
  simp [hk]
 ·rcases List.mem_cons.1 hp with rfl | hp
  ·exact ⟨.inr rfl,.inl h.kp.size,by rw [upd_same];exact Bx.new w vs ty,by rw [upd_same];exact hl⟩
  obtain ⟨h1,h2,h3,h4⟩:=h'.blk p hp;rw [ad_ _ _ (hne p hp)];exact ⟨.inl h1,h2,h3,h4⟩
 ·rcases List.mem_cons.1 hp with rfl | hp
  ·rw [upd_same];obtain ⟨v,h1,h2⟩:=hv j t hj;rcases h2 with ⟨_,h2⟩ | ⟨et,e,h2,_⟩
   ·exact ⟨v,h1,h2.go A5 (l_)⟩
   rw [show ow j=none from ho] at h2;cases h2
  obtain ⟨v,h1,h2⟩:=h.val p hp j t hj ho;rw [ad_ _ _ (hne p hp)];exact ⟨v,h1,h2.go A5 (l_)⟩
 ·rcases List.mem_cons.1 hp with rfl | hp
  ·rw [upd_same];obtain ⟨v,h1,h2⟩:=hv j t hj;rcases h2 with ⟨h2,_⟩ | ⟨et',e,h2,rfl,rfl⟩
   ·rw [show ow j=some et from ho] at h2;cases h2
   exact ⟨e,none,0,0,rfl,h1,Nat.zero_le _,OwT.nil _ _ _ _ _ _,fun g hg=>by cases hg⟩
  obtain ⟨e,A,n,c,h1,h2,h3,h4,h5⟩:=h'.row p hp j t et hj ho;rw [ad_ _ _ (hne p hp)];refine ⟨e,A,n,c,h1,h2,h3,?_,fun g hg=>⟨.inl (h5 g hg).1,(h5 g hg).2.1,fun q hq=>?_⟩⟩
  ·obtain ⟨e',A',n',c',A1,A2,Ab,A7,Ac⟩:=h.row p hp j t et hj ho;rw [h2] at A2;injection A2 with A2;injection A2 with ha hb hc;subst ha hb hc;rw [h1] at A1;injection A1 with A1;subst A1;exact (A7.sub (Y':=fun k=>Y k\/k=w.heap.size) (fun k hk hy=>by rcases hy with hy | hy;exact .inl hy;omega) (l_)).stay (cf_ hB none) (fun _ h=>by cases h)
  rcases List.mem_cons.1 hq with rfl | hq
  ·intro he;have A8:=h5 g hg;have:g<w:=h.lt g A8.1;have he:w=g:=he;omega
  exact (h5 g hg).2.2 q hq
 ·have A0:∀ (j:Nat) (v:Value),ow j≠none->vs[j]?=some v->v.ownBlock=none:=fun j v A3 hj=>by
   have A9:j<ts.length:=by rw [<-hl];exact (e_ hj).1
   obtain ⟨v',h1,h2⟩:=hv j _ (ge_ A9);rw [hj] at h1;injection h1 with h1;subst h1;rcases h2 with ⟨h2,_⟩ | ⟨_,_,_,_,rfl⟩
   ·exact absurd h2 A3
   rfl
  rcases List.mem_cons.1 hp with rfl | hp
  ·rw [upd_same] at hi;rw [A0 i u A6 hi] at hu;cases hu
  rw [ad_ _ _ (hne p hp)] at hi;rcases List.mem_cons.1 hq with rfl | hq
  ·rw [upd_same] at hj;rw [A0 j v A3 hj];simp
  rw [ad_ _ _ (hne q hq)] at hj;exact h.far p hp q hq i j u v g A4 A6 A3 hi hj hu
 rw [List.map_cons,List.nodup_cons];refine ⟨fun hm=>?_,h.nd⟩;obtain ⟨p,hp,he⟩:=List.mem_map.1 hm;exact hne p hp he
theorem Fr.tail {p:LV} (h:Fr X Z w0 (p :: L) Y C w):Fr X Z w0 L Y C w :=
 ⟨h.kp,h.sub,h.lt,fun q hq=>h.blk q (.tail _ hq),fun q hq=>h.val q (.tail _ hq),
   fun q hq j t et hj ho=>by
  obtain ⟨e,A,n,c,h1,h2,h3,h4,h5⟩:=h.row q (.tail _ hq) j t et hj ho
  exact ⟨e,A,n,c,h1,h2,h3,h4,fun g hg=>⟨(h5 g hg).1,(h5 g hg).2.1,fun r hr=>(h5 g hg).2.2 r (.tail _ hr)⟩⟩,
   fun q hq r hr=>h.far q (.tail _ hq) r (.tail _ hr),by have:=h.nd;rw [List.map_cons,List.nodup_cons] at this;exact this.2⟩
theorem Fr.raise {L':List LV} (h:Fr X Z w0 L Y C w) (hL:L'.length=L.length) (hr:∀ (i:Nat) (p q:LV),L[i]?=some p->L'[i]?=some q->q.b=p.b/\q.ts=p.ts/\q.ow=p.ow/\∀ j,p.K j<=q.K j):Fr X Z w0 L' Y C w:=by
 have back:∀ q ∈ L',∃ p ∈ L,q.b=p.b/\q.ts=p.ts/\q.ow=p.ow/\∀ j,p.K j<=q.K j:=fun q hq=>by
  obtain ⟨i,hi⟩:=List.getElem?_of_mem hq;have A0:i<L.length:=by rw [<-hL];exact (e_ hi).1
  exact ⟨L[i],List.getElem_mem A0,hr i _ q (ge_ A0) hi⟩
 refine ⟨h.kp,h.sub,h.lt,fun q hq=>?_,fun q hq j t hj ho=>?_,fun q hq j t et hj ho=>?_,fun p hp q hq i j u v g hne A1 A2 hi hj hu=>?_,?_⟩
 ·obtain ⟨p,hp,e1,e2,e3,e4⟩:=back q hq;rw [e1,e2];exact h.blk p hp
 ·obtain ⟨p,hp,e1,e2,e3,e4⟩:=back q hq;rw [e2] at hj;rw [e3] at ho;obtain ⟨v,h1,h2⟩:=h.val p hp j t hj ho;rw [e1];exact ⟨v,h1,h2.kept (Kp.refl _ _) (fun _ _ h=>h) (e4 j)⟩
 ·obtain ⟨p,hp,e1,e2,e3,e4⟩:=back q hq;rw [e2] at hj;rw [e3] at ho;obtain ⟨e,A,n,c,h1,h2,h3,h4,h5⟩:=h.row p hp j t et hj ho;rw [e1];refine ⟨e,A,n,c,h1,h2,Nat.le_trans h3 (e4 j),h4.sub (fun _ _ h=>.inl h) (e4 j),fun g hg=>⟨(h5 g hg).1,(h5 g hg).2.1,fun r A5=>?_⟩⟩;obtain ⟨s,hs,e5,_⟩:=back r A5;rw [e5];exact (h5 g hg).2.2 s hs
 ·obtain ⟨p',A3,e1,e2,e3,e4⟩:=back p hp;obtain ⟨q',A4,f1,f2,f3,f4⟩:=back q hq;rw [e1] at hi;rw [f1] at hj;rw [e1,f1] at hne;rw [e3] at A1;rw [f3] at A2;exact h.far p' A3 q' A4 i j u v g hne A1 A2 hi hj hu
 have:L'.map LV.b=L.map LV.b:=by
  apply List.ext_getElem?;intro i;rw [List.getElem?_map,List.getElem?_map];by_cases hi:i<L.length
  ·exact tr_
  rw [List.getElem?_eq_none o_,List.getElem?_eq_none o_]
 rw [this];exact h.nd
theorem Fr.write {vs:VL} (h:Fr X Z w0 L Y C w) (hp:L[i]?=some ⟨b,K,ts,ow⟩) (hk:Kp (fun k=>k=b) w w') (hsz:w'.heap.size=w.heap.size) (hB:Bx w' b vs) (hl:vs.length=ts.length)
  (hv:∀ j t,ts[j]?=some t->(ow j=none->∃ v,vs[j]?=some v/\VT w' Y (K j) t v)/\(ow j≠none->vs[j]?=(C b)[j]?)):Fr X Z w0 L Y (upd C b vs) w'/\Up w Y w' Y:=by
 have A3:=Fr.mem hp;obtain ⟨A4,A2,Ab,Ac⟩:=h.blk _ A3;have A9:Kp Y w w':=hk.mono (fun k _ h=>by subst h;exact A4);have A7:Up w Y w' Y:=⟨A9,fun _ _ h=>h⟩;have hg:w.grownBy w' (some b):=⟨hk.os,hk.tape,hk.output,hk.size,fun k A1 hne=>hk.block k A1 (fun e=>hne xq_)⟩;have same:∀ p ∈ L,p.b=b->p=⟨b,K,ts,ow⟩:=fun p hp he=>nodup_eq h.nd hp A3 he
 have A0:∀ p ∈ L,∀ j v,p.ow j≠none->((upd C b vs) p.b)[j]?=some v->(C p.b)[j]?=some v:=fun p hp j v ho hj=>by
  by_cases he:p.b=b
  ·have:=same p hp he;subst this;rw [show (upd C b vs) b=vs from upd_same _ _ _] at hj;have Aa:j<ts.length:=by rw [<-hl];exact (e_ hj).1
   rw [<-(hv j _ (ge_ Aa)).2 ho];exact hj
  rwa [ad_ _ _ he] at hj
 refine ⟨⟨?_,h.sub,fun k A1=>by rw [hsz];exact h.lt k A1,fun p hp=>?_,fun p hp j t hj ho=>?_,fun p hp j t et hj ho=>?_,fun p hp q hq i j u v g hne A5 A6 hi hj hu=>h.far p hp q hq i j u v g hne A5 A6 (A0 p hp i u A5 hi) (A0 q hq j v A6 hj) hu,h.nd⟩,A7⟩
 ·refine ⟨hk.os.trans h.kp.os,hk.tape.trans h.kp.tape,hk.output.trans h.kp.output,Nat.le_trans h.kp.size hk.size,fun k A1 hz=>(hk.block k (lt_ A1 h.kp.size) (fun e=>?_)).trans (h.kp.block k A1 hz)⟩;subst e;rcases A2 with A2 | A2
  ·have A2:w0.heap.size<=k:=A2;omega
  exact hz A2
 ·obtain ⟨h1,h2,h3,h4⟩:=h.blk p hp;by_cases he:p.b=b
  ·have:=same p hp he;subst this;exact ⟨h1,h2,by rw [show (upd C b vs) b=vs from upd_same _ _ _];exact hB,by rw [show (upd C b vs) b=vs from upd_same _ _ _];exact hl⟩
  rw [ad_ _ _ he];exact ⟨h1,h2,h3.kp hk he,h4⟩
 ·by_cases he:p.b=b
  ·have:=same p hp he;subst this;rw [show (upd C b vs) b=vs from upd_same _ _ _];exact (hv j t hj).1 ho
  obtain ⟨v,h1,h2⟩:=h.val p hp j t hj ho;rw [ad_ _ _ he];exact ⟨v,h1,h2.go A7 (l_)⟩
 obtain ⟨e,A,n,c,h1,h2,h3,h4,h5⟩:=h.row p hp j t et hj ho;refine ⟨e,A,n,c,h1,?_,h3,h4.stay hg (fun k A1=>by injection A1 with A1;subst A1;exact ⟨A4,fun A8=>(h5 _ A8).2.2 _ A3 rfl⟩),h5⟩;by_cases he:p.b=b
 ·have:=same p hp he;subst this;rw [show (upd C b vs) b=vs from upd_same _ _ _,(hv j t hj).2 (fun e=>by cases (show some et=none from ho.symm.trans e))];exact h2
 rw [ad_ _ _ he];exact h2
theorem Fr.set (h:Fr X Z w0 L Y C w) (hp:L[i]?=some ⟨b,K,ts,ow⟩) (hj:ts[j]?=some t) (ho:ow j=none) (hv:VT w Y (K j) t v):Fr X Z w0 L Y (upd C b ((C b).set j v)) (w.setCell (f_ b j) v)/\Up w Y (w.setCell (f_ b j) v) Y:=by
 have hk:Kp (fun k=>k=b) w (w.setCell (f_ b j) v):=(Kp.refl (fun k=>k=b) w).setCell (p:=(f_ b j)) (.inl rfl) v;have A3:=(h.blk _ (Fr.mem hp)).1;have A2:Kp Y w (w.setCell (f_ b j) v):=(Kp.refl _ w).setCell (.inl A3) v;refine h.write hp hk (by simp [World.setCell]) ((h.box hp).set j v) (by rw [List.length_set];exact h.len hp) (fun q s hq=>⟨fun A1=>?_,fun A1=>?_⟩)
 ·obtain ⟨u,hu,A4⟩:=h.val _ (Fr.mem hp) q s hq A1;by_cases A0:j=q
  ·subst A0;rw [show ts[j]?=some s from hq] at hj;injection hj with hj;subst hj;exact ⟨v,by rw [gs_,if_pos rfl,if_pos (e_ hu).1],hv.up A2 (l_)⟩
  exact ⟨u,by rw [gs_,if_neg A0];exact hu,A4.up A2 (l_)⟩
 have A0:j≠q:=fun e=>by subst e;exact A1 ho
 rw [gs_,if_neg A0]
theorem Fr.sets {N:Nat} {vs:VL} (h:Fr X Z w0 L Y C w) (hp:L[i]?=some ⟨b,fun _=>N,ts,noOw⟩) (hv:VTs w Y N ts vs):Fr X Z w0 L Y (upd C b vs) (w.setCells b 0 vs)/\Up w Y (w.setCells b 0 vs) Y:=by
 have hk:Kp (fun k=>k=b) w (w.setCells b 0 vs):=ag_ b vs 0 (Kp.refl _ w) (.inl rfl);have A0:=(h.blk _ (Fr.mem hp)).1;have A1:Kp Y w (w.setCells b 0 vs):=ag_ b vs 0 (Kp.refl _ w) (.inl A0);refine h.write hp hk (setCells_size _ _ _ _) ((h.box hp).all vs (by rw [hv.1,h.len hp])) hv.1 (fun q s hq=>⟨fun _=>?_,fun A2=>absurd rfl A2⟩);obtain ⟨u,hu,A3⟩:=hv.2 q s hq;exact ⟨u,hu,A3.up A1 (l_)⟩
theorem Fr.part {o N:Nat} {us:List CT} {vs:VL} (h:Fr X Z w0 L Y C w) (hp:L[i]?=some ⟨b,K,ts,ow⟩) (hu:(ts.drop o).take us.length=us) (hou:o+us.length<=ts.length) (hv:VTs w Y N us vs) (hK:∀ j,o<=j->j<o+us.length->N<=K j/\ow j=none):Fr X Z w0 L Y (upd C b (splice (C b) o vs)) (w.setCells b o vs)/\Up w Y (w.setCells b o vs) Y:=by
 have hk:Kp (fun k=>k=b) w (w.setCells b o vs):=ag_ b vs o (Kp.refl _ w) (.inl rfl);have A5:=(h.blk _ (Fr.mem hp)).1;have A4:Kp Y w (w.setCells b o vs):=ag_ b vs o (Kp.refl _ w) (.inl A5);have hl:=h.len hp;have A0:((C b).take o).length=o:=by rw [List.length_take,hl];omega
 have out:∀ q,q<o\/o+us.length<=q->(splice (C b) o vs)[q]?=(C b)[q]?:=fun q hq=>by
  unfold splice;rcases hq with hq | hq
  ·rw [List.getElem?_append_left (by rw [A0];exact hq),List.getElem?_take,if_pos hq]
  rw [List.getElem?_append_right yi_,A0,List.getElem?_append_right (by rw [hv.1];omega),hv.1,List.getElem?_drop]
  congr 1;omega
 refine h.write hp hk (setCells_size _ _ _ _) ((h.box hp).put o vs (by rw [hv.1,hl];exact hou)) (by unfold splice;rw [List.length_append,List.length_append,A0,List.length_drop,hl,hv.1];omega) (fun q s hq=>⟨fun A2=>?_,fun A2=>?_⟩)
 ·by_cases hin:o<=q/\q<o+us.length
  ·have hs:us[q - o]?=some s:=by
    rw [<-hu,List.getElem?_take,if_pos o_,List.getElem?_drop,show o+(q - o)=q from by omega];exact hq
   obtain ⟨u,A1,A3⟩:=hv.2 (q - o) s hs;refine ⟨u,?_,A3.kept A4 (fun _ _ h=>h) (hK q hin.1 hin.2).1⟩;unfold splice;rw [List.getElem?_append_right yi_,A0,List.getElem?_append_left (e_ A1).1];exact A1
  rw [out q o_];obtain ⟨u,A1,A3⟩:=h.val _ (Fr.mem hp) q s hq A2;exact ⟨u,A1,A3.up A4 (l_)⟩
 refine out q ?_;by_cases hin:o<=q/\q<o+us.length
 ·exact absurd (hK q hin.1 hin.2).2 A2
 omega
theorem Fr.append {e:List CT} {et:TypeId} {A A':OA} {n n' c c':Nat} (h:Fr X Z w0 L Y C w) (hp:L[i]?=some ⟨b,K,ts,ow⟩) (hj:ts[j]?=some (.sl e)) (ho:ow j=some et) (hC:(C b)[j]?=some (.slice A n c))
  (hO:OwT w' 0 et e Y (K j) A' n' c') (hn:n'<=K j) (hg:w.grownBy w' (Value.slice A n c).ownBlock) (hloc:∀ g,(Value.slice A' n' c').ownBlock=some g->(Value.slice A n c).ownBlock=some g\/g=w.heap.size) :
  ∃ Y',Fr X Z w0 L Y' (upd C b ((C b).set j (.slice A' n' c'))) (w'.setCell (f_ b j) (.slice A' n' c'))/\Up w Y (w'.setCell (f_ b j) (.slice A' n' c')) Y':=by
 have A4:=Fr.mem hp;obtain ⟨Aa,Am,Ar,Au⟩:=h.blk _ A4;obtain ⟨e1,A1,n1,c1,q1,q2,q3,q4,q5⟩:=h.row _ A4 j _ et hj ho;injection q1 with q1;subst q1;rw [show (C b)[j]?=some (.slice A1 n1 c1) from q2] at hC;injection hC with hC;injection hC with ha hb hc;subst ha hb hc;have A7:j<(C b).length:=(e_ q2).1;have As:b<w.heap.size:=h.lt _ Aa
 -- the world after both
 have A3:∀ g,(Value.slice A1 n1 c1).ownBlock=some g->Y g:=fun g hg=>(q5 g hg).1
 have A9:∀ p ∈ L,(Value.slice A1 n1 c1).ownBlock≠some p.b:=fun p hp he=>(q5 _ he).2.2 p hp rfl
 have Ac:Kp Y w w':=(Kp.refl _ w).grown hg (fun g hg=>.inl (A3 g hg));have Ao:Kp Y w (w'.setCell (f_ b j) (.slice A' n' c')):=Ac.setCell (.inl Aa) _;have Ad:∀ g,(Value.slice A' n' c').ownBlock=some g->g<w'.heap.size:=fun g A0=>by obtain ⟨xs,hx,_⟩:=hO;exact (am_ hx A0).2
 have Ap:∀ k,k<w.heap.size->¬Y k->¬(Y k\/(Value.slice A' n' c').ownBlock=some k):=fun k hk h1 h2=>by
  rcases h2 with h2 | h2
  ·exact h1 h2
  rcases hloc k h2 with h3 | h3
  ·exact h1 (A3 k h3)
  omega
 have Af:Up w Y (w'.setCell (f_ b j) (.slice A' n' c')) (fun k=>Y k\/(Value.slice A' n' c').ownBlock=some k):=⟨Ao,Ap⟩;have hsz:(w'.setCell (f_ b j) (.slice A' n' c')).heap.size=w'.heap.size:=by simp [World.setCell]
 have Ag:∀ p ∈ L,Bx w' p.b (C p.b):=fun p hp=>by
  have hx:=(h.blk p hp).2.2.1;exact hx.kp (X:=fun k=>(Value.slice A1 n1 c1).ownBlock=some k) ((Kp.refl _ w).grown hg (fun g hg=>.inl hg)) (A9 p hp)
 have same:∀ p ∈ L,p.b=b->p=⟨b,K,ts,ow⟩:=fun p hp he=>nodup_eq h.nd hp A4 he
 -- the row's block is none of the variables'
 have Ai:∀ g,(Value.slice A' n' c').ownBlock=some g->∀ q ∈ L,q.b≠g:=fun g A0 q hq=>by
  rcases hloc g A0 with h3 | h3
  ·exact (q5 g h3).2.2 q hq
  have:=h.lt _ (h.blk q hq).1;omega
 -- other rows' blocks are not it
 have Aj:∀ p ∈ L,∀ i u g,(p.b≠b\/i≠j)->p.ow i≠none->(C p.b)[i]?=some u->u.ownBlock=some g->(Value.slice A' n' c').ownBlock≠some g:=fun p hp i u g hne A8 hu A0 An=>by
  rcases hloc g An with h3 | h3
  ·exact h.far p hp _ A4 i j u _ g hne A8 (fun e=>by cases (show some et=none from ho.symm.trans e)) hu q2 A0 h3
  cases hot:p.ts[i]? with
  | none =>
   have h1:=(e_ hu).1;rw [(h.blk p hp).2.2.2] at h1;rw [List.getElem?_eq_none_iff] at hot;omega
  | some t =>
   cases hoo:p.ow i with
   | none=>exact A8 hoo
   | some A6 =>
    obtain ⟨e2,A2,n2,c2,r1,r2,r3,r4,r5⟩:=h.row p hp i t A6 hot hoo;rw [r2] at hu;injection hu with hu;subst hu;have:=h.lt _ (r5 g A0).1;omega
 refine ⟨_,⟨?_,fun k hk=>.inl (h.sub k hk),fun k hk=>?_,fun p hp=>?_,fun p hp q t hq A5=>?_,fun p hp q t A6 hq A5=>?_,fun p hp q hq i1 j1 u v g hne A8 Ak hi Ah hu=>?_,h.nd⟩,Af⟩
 ·refine (h.kp.grown hg (fun g hg=>?_)).setCell (p:=(f_ b j)) ?_ _
  ·rcases (q5 g hg).2.1 with h3 | h3
   ·exact .inr h3
   exact .inl h3
  rcases Am with h3 | h3
  ·exact .inr h3
  exact .inl h3
 ·rw [hsz];rcases hk with hk | hk
  ·exact lt_ (h.lt k hk) hg.size
  exact Ad k hk
 ·obtain ⟨h1,h2,h3,h4⟩:=h.blk p hp;by_cases he:p.b=b
  ·have:=same p hp he;subst this;rw [show (upd C b ((C b).set j (.slice A' n' c'))) b=_ from upd_same _ _ _];exact ⟨.inl h1,h2,(Ag _ A4).set j _,by rw [List.length_set];exact h4⟩
  rw [ad_ _ _ he];exact ⟨.inl h1,h2,(Ag p hp).far (fun e=>he e.symm) _,h4⟩
 ·obtain ⟨v,h1,h2⟩:=h.val p hp q t hq A5;by_cases he:p.b=b
  ·have:=same p hp he;subst this;have Ab:j≠q:=fun e=>by subst e;rw [show ow j=none from A5] at ho;cases ho
   rw [show (upd C b ((C b).set j (.slice A' n' c'))) b=_ from upd_same _ _ _,gs_,if_neg Ab];exact ⟨v,h1,h2.go Af (l_)⟩
  rw [ad_ _ _ he];exact ⟨v,h1,h2.go Af (l_)⟩
 ·by_cases hsame:p.b=b/\q=j
  ·obtain ⟨he,rfl⟩:=hsame;have:=same p hp he;subst this;rw [show ts[q]?=some t from hq] at hj;injection hj with hj;subst hj;rw [show ow q=some A6 from A5] at ho;injection ho with ho;subst ho;rw [show (upd C b ((C b).set q (.slice A' n' c'))) b=_ from upd_same _ _ _];refine ⟨e,A',n',c',rfl,by rw [gs_,if_pos rfl,if_pos A7],hn,?_,fun g A0=>⟨.inr A0,?_,Ai g A0⟩⟩
   ·exact (hO.stay (dt_ w' (f_ b q) _) (fun k hk=>by injection hk with hk;subst hk;exact ⟨Aa,fun A0=>Ai _ A0 _ A4 rfl⟩)).sub (fun k _ hy=>hy) (l_)
   rcases hloc g A0 with h3 | h3
   ·exact (q5 g h3).2.1
   exact .inl (by have:=h.kp.size;omega)
  have hne:p.b≠b\/q≠j:=by
   by_cases h1:p.b=b
   ·exact .inr (fun h2=>hsame ⟨h1,h2⟩)
   exact .inl h1
  obtain ⟨e2,A2,n2,c2,r1,r2,r3,r4,r5⟩:=h.row p hp q t A6 hq A5;have Ae:p.ow q≠none:=by rw [A5];simp
  have Al:((upd C b ((C b).set j (.slice A' n' c'))) p.b)[q]?=some (.slice A2 n2 c2):=by
   by_cases he:p.b=b
   ·have:=same p hp he;subst this;have Ab:j≠q:=fun e=>by rcases hne with h1 | h1;exact h1 rfl;exact h1 e.symm
    rw [show (upd C b ((C b).set j (.slice A' n' c'))) b=_ from upd_same _ _ _,gs_,if_neg Ab];exact r2
   rw [ad_ _ _ he];exact r2
  refine ⟨e2,A2,n2,c2,r1,Al,r3,?_,fun g A0=>⟨.inl (r5 g A0).1,(r5 g A0).2.1,(r5 g A0).2.2⟩⟩;have s1:OwT w 0 A6 e2 (fun k=>Y k\/(Value.slice A' n' c').ownBlock=some k) (p.K q) A2 n2 c2:=r4.sub (fun k hk hy=>by
   rcases hy with hy | hy
   ·exact .inl hy
   rcases hloc k hy with h3 | h3
   ·exact .inl (A3 k h3)
   omega) (l_)
  have s2:=s1.stay hg (fun k hk=>⟨.inl (A3 k hk),fun A0=>h.far p hp _ A4 q j _ _ k hne Ae (fun e=>by cases (show some et=none from ho.symm.trans e)) r2 q2 A0 hk⟩);exact s2.stay (dt_ w' (f_ b j) _) (fun k hk=>by injection hk with hk;subst hk;exact ⟨.inl Aa,fun A0=>(r5 _ A0).2.2 _ A4 rfl⟩)
 have back:∀ p ∈ L,∀ i u,((upd C b ((C b).set j (.slice A' n' c'))) p.b)[i]?=some u->(p.b=b/\i=j/\u=.slice A' n' c')\/((p.b≠b\/i≠j)/\(C p.b)[i]?=some u):=fun p hp i u hu=>by
  by_cases he:p.b=b
  ·have:=same p hp he;subst this;rw [show (upd C b ((C b).set j (.slice A' n' c'))) b=_ from upd_same _ _ _,gs_] at hu;by_cases hij:j=i
   ·subst hij;rw [if_pos rfl,if_pos A7] at hu;injection hu with hu;exact .inl ⟨rfl,rfl,hu.symm⟩
   rw [if_neg hij] at hu;exact .inr ⟨.inr (fun e=>hij e.symm),hu⟩
  rw [ad_ _ _ he] at hu;exact .inr ⟨.inl he,hu⟩
 rcases back p hp i1 u hi with ⟨p1,p2,rfl⟩ | ⟨p1,p2⟩
 ·rcases back q hq j1 v Ah with ⟨r1,r2,rfl⟩ | ⟨r1,r2⟩
  ·exfalso;rcases hne with hne | hne
   ·exact hne (p1.trans r1.symm)
   exact hne (p2.trans r2.symm)
  intro Aq;exact Aj q hq j1 v g r1 Ak r2 Aq hu
 rcases back q hq j1 v Ah with ⟨r1,r2,rfl⟩ | ⟨r1,r2⟩
 ·exact Aj p hp i1 u g p1 A8 p2 hu
 exact h.far p hp q hq i1 j1 u v g hne A8 Ak p2 r2 hu
theorem Fr.add1 (h:Fr X Z w0 L Y C w) (N:Nat) (ts:List CT) (vs:VL) (ty:TypeId) (hv:VTs w Y N ts vs) :
  ∃ W Y' C',W=w.alloc (.cells vs.toArray ty)/\W.heap.size=w.heap.size+1/\Up w Y W Y'/\Fr X Z w0 (⟨w.heap.size,fun _=>N,ts,noOw⟩ :: L) Y' C' W/\C' w.heap.size=vs/\∀ k,k≠w.heap.size->C' k=C k:=by
 obtain ⟨Y',h1,h2⟩:=h.add (fun _=>N) ts noOw vs ty hv.1 (fun j t hj=>by obtain ⟨v,h1,h2⟩:=hv.2 j t hj;exact ⟨v,h1,.inl ⟨rfl,h2⟩⟩);exact ⟨_,Y',_,rfl,zj_,h2,h1,upd_same _ _ _,fun k hk=>ad_ _ _ hk⟩
theorem Fr.up1 {p q:LV} (h:Fr X Z w0 (p :: L) Y C w) (e1:q.b=p.b) (e2:q.ts=p.ts) (e3:q.ow=p.ow) (e4:∀ j,p.K j<=q.K j):Fr X Z w0 (q :: L) Y C w :=
 h.raise rfl (fun i a c ha hc=>by
  cases i with
  | zero=>simp at ha hc;subst ha hc;exact ⟨e1,e2,e3,e4⟩
  | succ i=>simp at ha hc;rw [ha] at hc;injection hc with hc;subst hc;exact ⟨rfl,rfl,rfl,fun _=>l_⟩)
theorem Fr.perm {L':List LV} (h:Fr X Z w0 L Y C w) (hm:∀ p,p ∈ L'->p ∈ L) (hn:(L'.map LV.b).Nodup):Fr X Z w0 L' Y C w :=
 ⟨h.kp,h.sub,h.lt,fun q hq=>h.blk q (hm q hq),fun q hq=>h.val q (hm q hq),
   fun q hq j t et hj ho=>by
  obtain ⟨e,A,n,c,h1,h2,h3,h4,h5⟩:=h.row q (hm q hq) j t et hj ho
  exact ⟨e,A,n,c,h1,h2,h3,h4,fun g hg=>⟨(h5 g hg).1,(h5 g hg).2.1,fun r hr=>(h5 g hg).2.2 r (hm r hr)⟩⟩,
   fun q hq r hr=>h.far q (hm q hq) r (hm r hr),hn⟩
theorem Fr.swap {p q:LV} (h:Fr X Z w0 (p :: q :: L) Y C w):Fr X Z w0 (q :: p :: L) Y C w :=
 h.perm (fun r hr=>by simp at hr ⊢;rcases hr with h | h | h;exact .inr (.inl h);exact .inl h;exact .inr (.inr h)) (by
  have:=h.nd
  simp only [List.map_cons,List.nodup_cons,List.mem_cons,not_or] at this ⊢
  exact ⟨⟨fun e=>this.1.1 e.symm,this.2.1⟩,this.1.2,this.2.2⟩)
theorem Fr.info {P:Program} {T:TypeId} (h:Fr X Z w0 L Y C w) (hp:L[i]?=some ⟨b,K,ts,ow⟩) (hi:(P.info? T).map (·.size)=some ts.length):(P.info? T).map (·.size)=some (C b).length:=by rw [h.len hp];exact hi
theorem Fr.there (h:Fr X Z w0 L Y C w) (hp:L[i]?=some ⟨b,K,ts,ow⟩) {o n:Nat} (hn:o+n<=ts.length):w.there b o n:=(h.box hp).there (by rw [h.len hp];exact hn)
theorem Bx.ai_ {w:World} {b n m:Nat} {cs:VL} (h:Bx w b cs) (hl:cs.length=n) (hm:m<=n):w.there b 0 m:=h.there o_
theorem Fr.blt (h:Fr X Z w0 L Y C w) (hp:L[i]?=some ⟨b,K,ts,ow⟩):b<w:=(h.box hp).1
/- What is handed back. -/
end
def KT (vs us:VL):Prop:=us[42]?=vs[42]?/\us[47]?=vs[47]?
theorem KT.refl (vs:VL):KT vs vs:=⟨rfl,rfl⟩
theorem KT.trans {vs us xs:VL} (h:KT vs us) (h2:KT us xs):KT vs xs:=⟨h2.1.trans h.1,h2.2.trans h.2⟩
theorem KT.set (vs:VL) (j:Nat) (v:Value) (hj:j≠42/\j≠47):KT vs (vs.set j v):=⟨by rw [gs_,if_neg hj.1],by rw [gs_,if_neg hj.2]⟩
def RAk (X:NP) (K:Nat) (ts:List CT) (vs:VL) (e:Ending) (w:World):Prop:=∃ us,e=.returned (.agg us.toArray)/\VTs w X K ts us/\Hid (KT vs us)
def RATk (X:NP) (K:Nat) (ts:List CT) (t:CT) (vs:VL) (e:Ending) (w:World):Prop:=∃ us v,e=.returned (.tuple #[.agg us.toArray,v])/\VTs w X K ts us/\VT w X K t v/\Hid (KT vs us)
theorem Fr.ratk {X:NP} {w0 w:World} {L:List LV} {Y:NP} {C:Nat->VL} {i b N:Nat} {ts:List CT} {t:CT} {v:Value} {vs:VL} (h:Fr X (fun _=>False) w0 L Y C w) (hp:L[i]?=some ⟨b,fun _=>N,ts,noOw⟩) (hv:VT w Y N t v) (hk:KT vs (C b)):RATk X N ts t vs (.returned (.tuple #[.agg (C b).toArray,v])) w/\Below w0 w0 w :=
 ⟨⟨_,_,rfl,(h.whole hp).less (fun k _ hk=>h.sub k hk),hv.less (fun k _ hk=>h.sub k hk),q_ hk⟩,h.below⟩
/- The variables at a function's beginning. -/
section
variable {X:NP} {w:World}
theorem Fr.start1 (hX:∀ k,X k->k<w) (N0:Nat) (s0:List CT) (v0:VL) (t0:TypeId) (h0:VTs w X N0 s0 v0) :
  ∃ W Y C,W=w.alloc (.cells v0.toArray t0)/\W.heap.size=w.heap.size+1/\Up w X W Y/\Fr X (fun _=>False) w [⟨w.heap.size,fun _=>N0,s0,noOw⟩] Y C W/\C w.heap.size=v0:=by
 obtain ⟨W,Y,C,h1,h2,h3,h4,h5,_⟩:=(Fr.nil hX (fun _=>False) (fun _=>[])).add1 N0 s0 v0 t0 h0;exact ⟨W,Y,C,h1,h2,h3,h4,h5⟩
theorem Fr.start2 (hX:∀ k,X k->k<w.heap.size) (N0:Nat) (s0:List CT) (v0:VL) (t0:TypeId) (h0:VTs w X N0 s0 v0) (N1:Nat) (s1:List CT) (v1:VL) (t1:TypeId) (h1:VTs w X N1 s1 v1) :
  ∃ W Y C,W=(w.alloc (.cells v0.toArray t0)).alloc (.cells v1.toArray t1)/\W.heap.size=w.heap.size+2/\Up w X W Y/\Fr X (fun _=>False) w [⟨w.heap.size+1,fun _=>N1,s1,noOw⟩,⟨w.heap.size,fun _=>N0,s0,noOw⟩] Y C W/\C w.heap.size=v0/\C (w.heap.size+1)=v1:=by
 obtain ⟨V,Y0,C0,rfl,hz,u0,f0,c0⟩:=Fr.start1 hX N0 s0 v0 t0 h0;obtain ⟨W,Y,C,hW,A0,u1,f1,d1,d2⟩:=f0.add1 N1 s1 v1 t1 (h1.go u0 (l_));rw [hz] at A0 f1 d1 d2;exact ⟨W,Y,C,hW,A0,u0.trans u1,f1,(d2 _ o_).trans c0,d1⟩
theorem Fr.start3 (hX:∀ k,X k->k<w.heap.size) (N0:Nat) (s0:List CT) (v0:VL) (t0:TypeId) (h0:VTs w X N0 s0 v0) (N1:Nat) (s1:List CT) (v1:VL) (t1:TypeId) (h1:VTs w X N1 s1 v1) (N2:Nat) (s2:List CT) (v2:VL) (t2:TypeId) (h2:VTs w X N2 s2 v2) :
  ∃ W Y C,W=((w.alloc (.cells v0.toArray t0)).alloc (.cells v1.toArray t1)).alloc (.cells v2.toArray t2)/\W.heap.size=w.heap.size+3/\Up w X W Y/\Fr X (fun _=>False) w [⟨w.heap.size+2,fun _=>N2,s2,noOw⟩,⟨w.heap.size+1,fun _=>N1,s1,noOw⟩,⟨w.heap.size,fun _=>N0,s0,noOw⟩] Y C W/\C w.heap.size=v0/\C (w.heap.size+1)=v1/\C (w.heap.size+2)=v2:=by
 obtain ⟨V,Y0,C0,rfl,hz,u0,f0,c0,c1⟩:=Fr.start2 hX N0 s0 v0 t0 h0 N1 s1 v1 t1 h1;obtain ⟨W,Y,C,hW,A0,u1,f1,d1,d2⟩:=f0.add1 N2 s2 v2 t2 (h2.go u0 (l_));rw [hz] at A0 f1 d1 d2;exact ⟨W,Y,C,hW,A0,u0.trans u1,f1,(d2 _ o_).trans c0,(d2 _ o_).trans c1,d1⟩
theorem Fr.start4 (hX:∀ k,X k->k<w.heap.size) (N0:Nat) (s0:List CT) (v0:VL) (t0:TypeId) (h0:VTs w X N0 s0 v0) (N1:Nat) (s1:List CT) (v1:VL) (t1:TypeId) (h1:VTs w X N1 s1 v1) (N2:Nat) (s2:List CT) (v2:VL) (t2:TypeId) (h2:VTs w X N2 s2 v2) (N3:Nat) (s3:List CT) (v3:VL) (t3:TypeId) (h3:VTs w X N3 s3 v3) :
  ∃ W Y C,W=(((w.alloc (.cells v0.toArray t0)).alloc (.cells v1.toArray t1)).alloc (.cells v2.toArray t2)).alloc (.cells v3.toArray t3)/\W.heap.size=w.heap.size+4/\Up w X W Y/\Fr X (fun _=>False) w [⟨w.heap.size+3,fun _=>N3,s3,noOw⟩,⟨w.heap.size+2,fun _=>N2,s2,noOw⟩,⟨w.heap.size+1,fun _=>N1,s1,noOw⟩,⟨w.heap.size,fun _=>N0,s0,noOw⟩] Y C W/\C w.heap.size=v0/\C (w.heap.size+1)=v1/\C (w.heap.size+2)=v2/\C (w.heap.size+3)=v3:=by
 obtain ⟨V,Y0,C0,rfl,hz,u0,f0,c0,c1,c2⟩:=Fr.start3 hX N0 s0 v0 t0 h0 N1 s1 v1 t1 h1 N2 s2 v2 t2 h2;obtain ⟨W,Y,C,hW,A0,u1,f1,d1,d2⟩:=f0.add1 N3 s3 v3 t3 (h3.go u0 (l_));rw [hz] at A0 f1 d1 d2;exact ⟨W,Y,C,hW,A0,u0.trans u1,f1,(d2 _ o_).trans c0,(d2 _ o_).trans c1,(d2 _ o_).trans c2,d1⟩
def CT.zero:CT->Value
 | .num=>.int .i64 0
 | .tru=>.bool false
 | .txt=>.string ByteArray.empty
 | .sl _=>.slice none 0 0
 | .lst _ _=>.slice none 0 0
 | .sat _=>.pointer none
def CT.zok:CT->Bool
 | .sat _=>false
 | _=>true
theorem vt_zero (K:Nat):∀ t:CT,t.zok=true->VT w X K t t.zero
 | .num,_=>.num _
 | .tru,_=>.tru _
 | .txt,_=>.txt _
 | .sl _,_=>.nil _
 | .lst _ _,_=>.lnil _ _
theorem ax_ (K:Nat) (ts:List CT) (h:ts.all CT.zok=true:=by rfl):VTs w X K ts (ts.map CT.zero):=⟨zj_,fun j t hj=>⟨t.zero,by simp [hj],vt_zero K t (List.all_eq_true.1 h t (List.mem_of_getElem? hj))⟩⟩
end
theorem Fr.eb_ {X Z:NP} {w0 w:World} {L:List LV} {Y:NP} {C:Nat->VL} (h:Fr X Z w0 L Y C w) (N:Nat) (ts:List CT) (zs us:VL) (ty:TypeId) (hz:VTs w Y N ts zs) (hu:VTs w Y N ts us) :
  ∃ W Y' C',W=(w.alloc (.cells zs.toArray ty)).setCells w.heap.size 0 us/\W.heap.size=w.heap.size+1/\Up w Y W Y'/\Fr X Z w0 (⟨w.heap.size,fun _=>N,ts,noOw⟩ :: L) Y' C' W/\C' w.heap.size=us/\∀ k,k≠w.heap.size->C' k=C k:=by
 obtain ⟨W,Y',C',rfl,h2,h3,h4,h5,h6⟩:=h.add1 N ts zs ty hz;obtain ⟨h7,h8⟩:=h4.sets (i:=0) rfl (hu.go h3 (l_));exact ⟨_,Y',_,rfl,by rw [setCells_size];exact h2,h3.trans h8,h7,upd_same _ _ _,fun k hk=>by rw [ad_ _ _ hk];exact h6 k hk⟩
structure EI (P:Program) (t et:TypeId) (e:List CT) (bytes:Nat):Prop where
 ht:P.underlying t=some (.slice et)
 hi:∃ i z,P.info? et=some i/\i.zero=some z/\i.size=e.length/\i.bytes=bytes/\z.cells.size=e.length
 hsz:0<e.length
theorem EI.of {P:Program} {t et:TypeId} {e:List CT} {bytes:Nat} {z:Value} (ht:P.underlying t=some (.slice et)) (hi:(P.info? et).map (fun i=>(i.zero,i.size,i.bytes))=some (some z,e.length,bytes)) (hz:z.cells.size=e.length) (hsz:0<e.length):EI P t et e bytes:=by
 cases h:P.info? et with
 | none=>rw [h] at hi;cases hi
 | some i =>
  rw [h] at hi;simp at hi;exact ⟨ht,⟨i,z,h,hi.1,hi.2.1,hi.2.2,hz⟩,hsz⟩
section
variable {P:Program} {X:NP} {K n m c d bytes:Nat} {A B:OA} {e:List CT} {t et:TypeId}
theorem run_append_sh (w:World) (ty:TypeId) (E:EI P t et e bytes) (hd:SlT w X K e A n c) (hs:SlT w X K e B m d) (hf:m=0\/c<n+m) (hX:∀ k,X k->k<w) (hK:n+m<=K) (h63:K<=maxLen) (hb:K*bytes<=140737488355328) :
  ∃ A' c' w',(Builtin.append_ #[t,t] ty #[.slice A n c,.slice B m d]).run P w=.ok (.slice A' (n+m) c') w'/\SlT w' X K e A' (n+m) c'/\Below w w w':=by
 obtain ⟨i,z,hi,hz,h1,h2,h3⟩:=E.hi;by_cases hm:m=0
 ·subst hm;exact ⟨A,c,w,ct_ w t ty et i E.ht hi A n c hd.cap B d,hd,b_⟩
 obtain ⟨A',c',w',hr,ho,A0⟩:=run_append_full (P:=P) w t ty et i z bytes e X K E.ht hi hz h1 h2 h3 E.hsz A n c hd B m d hs o_ o_ hX o_ (Nat.le_trans (Nat.mul_le_mul_right _ hK) hb);exact ⟨A',c',w',hr,ho.slT hX hK,A0⟩
variable {ops:Array Oper} {rest:List Oper} {o:Oper} {a:Act} {w:World} {Q:Exit->Act->World->Prop}
theorem ce_ {K0:Act->World->Prop} {El:Prop} (hgd:o.guard=none) (s x:Operand) (ho:o.op=.call { callee:=.builtin .append,args:=#[s,x],argTypes:=#[t,t] }) (E:EI P t et e bytes) (X:NP) (K:Nat)
  (A:OA) (n c:Nat) (hs:a.eval s=.slice A n c) (hd:SlT w X K e A n c) (B:OA) (m d:Nat) (hx:a.eval x=.slice B m d) (hsrc:SlT w X K e B m d) (hf:m=0\/c<n+m) (hX:∀ k,X k->k<w) (hK:n+m<=K) (h63:K<=maxLen) (hb:K*bytes<=140737488355328)
  (h:∀ A' c' w',SlT w' X K e A' (n+m) c'->Below w w w'->K0 (a.put o.dst (.slice A' (n+m) c')) w'):if Region.wanted o (yielded ops a.tmps)=true then Oper.wp P o a w K0 Q else El:=by
 obtain ⟨A',c',w',hr,h1,h2⟩:=run_append_sh w o.type E hd hsrc hf hX hK h63 hb;have hw:Region.wanted o (yielded ops a.tmps)=true:=by simp [Region.wanted,hgd]
 exact tm_
theorem wpList_append_sh (hgd:o.guard=none) (s x:Operand) (ho:o.op=.call { callee:=.builtin .append,args:=#[s,x],argTypes:=#[t,t] }) (E:EI P t et e bytes) (X:NP) (K:Nat)
  (A:OA) (n c:Nat) (hs:a.eval s=.slice A n c) (hd:SlT w X K e A n c) (B:OA) (m d:Nat) (hx:a.eval x=.slice B m d) (hsrc:SlT w X K e B m d) (hf:m=0\/c<n+m) (hX:∀ k,X k->k<w) (hK:n+m<=K) (h63:K<=maxLen) (hb:K*bytes<=140737488355328)
  (h:∀ A' c' w',SlT w' X K e A' (n+m) c'->Below w w w'->wpList P ops Q rest (a.put o.dst (.slice A' (n+m) c')) w'):wpList P ops Q (o :: rest) a w:=by
 obtain ⟨A',c',w',hr,h1,h2⟩:=run_append_sh w o.type E hd hsrc hf hX hK h63 hb;exact Lib.wpList_append_run w hgd s x t t ho _ _ hs hx _ _ hr (h A' c' w' h1 h2)
theorem EI.high3 (E:EI P t et e bytes) {A:OA} {n c k:Nat} (hk:k<=c) (w:World):(Instr.slice t (.slice A n c) none (some (i_ k)) (some (i_ k))).run P w=.ok (.slice A k k) w:=by
 obtain ⟨i,z,hi,_⟩:=E.hi;exact el_ E.ht hi hk w
theorem EI.low (E:EI P t et e bytes) {A:OA} {n c k:Nat} (hk:k<=n) (w:World):(Instr.slice t (.slice A n c) (some (i_ k)) none none).run P w=.ok (.slice (cutA A c k e.length) (n - k) (c - k)) w:=by
 obtain ⟨i,z,hi,_,h1,_⟩:=E.hi;rw [es_ E.ht hi hk,h1]
end
end Go.Proofs.YtfolidlmgfhkiaaGreat
namespace Go.Proofs.YtfolidlmgfhkiaaGreat
open Go.RowKit Go.Proofs.Tryz
theorem infoCl:(prog.info? 87).map (fun i=>(i.zero,i.size,i.bytes))=some (some (.agg #[i_ 0,i_ 0,.bool false,i_ 0]),4,32):=by kernel_rfl
theorem infoAc:(prog.info? 152).map (fun i=>(i.zero,i.size,i.bytes))=some (some (.agg #[.bool false,i_ 0,i_ 0]),3,24):=by kernel_rfl
def RSl (X:NP) (K:Nat) (e:List CT) (en:Ending) (w:World):Prop:=∃ (A:OA) (n c:Nat),en=.returned (.slice A n c)/\Hid (SlT w X K e A n c)
theorem actions_t (X:NP) (K L:Nat) (A:OA) (n c:Nat) (B:OA) (m d:Nat) (w:World) (ha:SlT w X K actT A n c) (hb:SlT w X L actT B m d) (hK:K<=100000000000) (hL:L<=100000000000) (hX:∀ k,X k->k<w) :
  Calls prog 75 #[.slice A n c,.slice B m d] w fun e w'=>RSl X (K+L) actT e w'/\Below w w w':=by
 obtain ⟨i0,A1,A2,A3,A6⟩:=info_parts infoAc;have HA:=h_ (SlT w (Wi X (Value.slice none 0 0).ownBlock) (K+L) actT A n c) (ha.kept (Kp.refl _ _) (fun k _ h h2=>by rcases h2 with h2 | h2;exact h h2;cases h2) o_);have HB:=q_ hb;have A0:=q_ hX;have h1:=ha.le;have h2:=hb.le;clear ha hb hX;go_enter func75,ntmps75;go_wp2_with (at_builtin;first
  | (refine ao_ rfl _ _ 36 rfl w 152 i0 _ 24 actT X (K+L) underlying36 A1 A2 A3 A6 rfl d_ none 0 0 zc_ (OwT.nil _ _ _ _ _ _) A n c zc_ HA.o A0.o m_ o_ (l_) ?_;intro A4 c4 w4 o4 g4 l4;rw [Nat.zero_add] at o4 l4 ⊢;have b4:Below w w w4:=aj_ g4 (l_) (fun k hk=>by cases hk);have z4:=b4.size;have O4:=q_ o4;have L4:=q_ l4;clear o4 l4 g4)
  | (refine ao_ rfl _ _ 36 rfl w 152 i0 _ 24 actT X (K+L) underlying36 A1 A2 A3 A6 rfl d_ A4 n c4 zc_ O4.o B m d zc_ (HB.o.kept (Kp.of_below b4) (fun k hk h h2=>by rcases h2 with h2 | h2;exact h h2;rcases L4.o k h2 with h3 | h3;cases h3;omega) o_) (fun k hk=>by have:=A0.o k hk;omega) m_ o_ z4 ?_;intro A5 c5 w5 o5 g5 l5;have b5:Below w w w5:=b4.grown g5 z4 (fun k hk=>by rcases L4.o k hk with h3 | h3;cases h3;omega);have O5:=q_ o5;clear o5 l5 g5))
 go_ret;exact ⟨⟨_,_,_,rfl,q_ (O5.o.slT A0.o o_)⟩,b5⟩
theorem Answer_t (X:NP) (K:Nat) (A:OA) (n c:Nat) (k:Int) (w:World) (h:SlT w X K [.num] A n c) (hK:K<=4398046510976) :
  Calls prog 76 #[.agg #[.slice A n c],i_ k] w fun e w'=>RN e/\Below w w w':=by
 have hn:n<=4398046510976:=Nat.le_trans h.le hK;have H:=q_ h;clear h;by_cases h0:0<=k
 ·obtain ⟨q,rfl⟩:∃ q:Nat,k=q:=⟨k.toNat,o_⟩;by_cases h1:q<n
  ·have A0:(q:Int)<(n:Int):=by omega
   obtain ⟨g,o,rfl,hg,x,hx⟩:=H.o.num_at h1;have c0:=hx w (b_);clear hx;exact uw_
  have A0:¬(q:Int)<(n:Int):=by omega
  exact uw_
 exact uw_
theorem eo_ (X:NP) (K:Nat) (A:OA) (n c:Nat) (y:Dl) (w:World) (ha:SlT w X K ap_ A n c) (hK:1<=K/\K<=100000000000) (hX:∀ k,X k->k<w) :
  Calls prog 138 #[.slice A n c,.agg #[i_ y.id,i_ y.field,i_ y.op,.bool y.ref,i_ y.n]] w fun e w'=>RSl X K ap_ e w'/\Below w w w':=by
 obtain ⟨i0,Ac,Ad,Ae,Af⟩:=info_parts infoCl;obtain ⟨W,hW,A4,Ab,B0⟩:=af_ w [i_ y.id,i_ y.field,i_ y.op,.bool y.ref,i_ y.n] 174;have KB:=q_ (fun w' (hb:Below W W w')=>B0.below hb);have HA:=q_ (ha.up (Kp.of_below A4) (Nat.le_refl K));have HW:=q_ A4;have Ah:=ha.le;have Ag:(w:Nat)<W:=by omega
 have A3:=h_ (∀ k,X k->k<W) (fun k hk=>by have:=hX k hk;omega);clear ha hX B0 A4 Ab;go_enter func138,ntmps138;go_upto_region 1 with fail;rw [<-hW];clear hW;go_upto_region 3 with fail;go_loopw [10,5] (fun i s wr=>∃ (k q:Nat) (B:OA) (d:Nat),k<=n/\i=i_ k/\s=.slice B q d/\q<=k/\Hid (OwT wr W 87 ap_ X K B q d)/\Below W W wr) (fun i _ _=>n - (intOf i).toNat)
 case atStart=>exact ⟨0,0,none,0,o_,rfl,rfl,o_,q_ (OwT.nil _ _ _ _ _ _),b_⟩
 obtain ⟨k,q,B,d,hk,rfl,rfl,hq,hO,hb⟩:=hrel;have Aj:=hb.size;by_cases hlt:k<n
 ·have A6:(k:Int)<(n:Int):=by omega
  obtain ⟨g,o,rfl,hg,x,hx⟩:=HA.o.dr_ hlt;obtain ⟨c0,c1,c2,c3⟩:=hx wr hb;have d0:=(KB.o wr hb).2.1 0 _ rfl;have d1:=(KB.o wr hb).2.1 1 _ rfl;have A7:(w:Nat)<wr:=by omega
  have HB:=q_ hb;obtain ⟨V,hV,A0,Aa,V0⟩:=af_ wr [i_ x.id,i_ x.field,.bool x.ref,i_ x.n] 87;have v0:=V0.2.1 0 _ rfl;have v1:=V0.2.1 1 _ rfl;have v2:=V0.2.1 2 _ rfl;have v3:=V0.2.1 3 _ rfl;have e0:V.cell? (a_ w)=some (i_ y.id):=(belc A0 A7).trans d0;have e1:V.cell? (f_ w 1)=some (i_ y.field):=(belc A0 A7).trans d1;have A1:=h_ (Below W W V) (hb.trans (A0.mono hb.size));have A8:=h_ (∀ o,Below W W (V.alloc o)) (fun o=>A1.o.alloc A1.o.size o);have A2:=q_ (hO.o.below A0);have A9:=h_ (∀ o,OwT (V.alloc o) W 87 ap_ X K B q d) (fun o=>A2.o.below ((b_).alloc (l_) o));have HU:=h_ (∀ a b r m,SlT (V.alloc (.cells #[i_ a,i_ b,.bool r,i_ m] 87)) (Wi X (Value.slice B q d).ownBlock) K ap_ (some (a_ V)) 1 1) (fun a b r m=>by
   refine SlT.lit1 (e:=ap_) (dz_ a b r m) _ (fun h=>?_) hK.1
   rcases h with h | h
   ·have:=A3.o _ h;omega
   obtain ⟨xs,ho,_⟩:=A2.o
   have:=(am_ ho h).2;omega)
  have Ai:=A1.o.size;clear hx hb hO V0 A0 Aa d0 d1;go_upto_region 5 with fail;rw [<-hV];clear hV c0 c1 c2 c3;go_wp2_with (at_builtin;refine ao_ rfl _ _ 54 rfl W 87 i0 _ 32 ap_ X K underlying54 Ac Ad Ae Af rfl d_ B q d zc_ (A9.o _) _ 1 1 zc_ (HU.o _ _ _ _) (fun k hk=>by have:=A3.o k hk;simp;omega) m_ o_ zp_ ?_;intro A5 c5 w5 o5 g5 l5;have b5:Below W W w5:=(A8.o _).grown g5 zp_ (fun k hk=>by obtain ⟨xs,ho,_⟩:=A2.o;exact (am_ ho hk).1);have O5:=q_ o5;clear o5 g5 l5);all_goals first
   | (go_roundw
      case rel=>exact ⟨k+1,q+1,A5,c5,o_,zb_,rfl,o_,O5,b5⟩
      case measure=>exact me_)
   | (go_roundw
      case rel=>exact ⟨k+1,q,B,d,o_,zb_,rfl,o_,A2,A1.o⟩
      case measure=>exact me_)
 have A6:¬(k:Int)<(n:Int):=by omega
 go_wp2;go_ret;exact ⟨⟨_,_,_,rfl,q_ (hO.o.slT A3.o o_)⟩,HW.o.trans (hb.mono HW.o.size)⟩
theorem fits_13 (A:OA) (n c:Nat) (v s:Int) (i:Nat) (l:List In) (x:In) (g k:Nat) (w:World) (hs:Sl w w 5 In.cells A n l) (hn:n<=2048) (hx:l[i]?=some x) (hsh:Sl w w 4 shCells (some (a_ g)) 22 shTab) (hk:x.op=k) (hk22:k<22) (HKK:k=13) :
  Calls prog 121 #[.agg #[.slice A n c,i_ v,i_ s],i_ i,.slice (some (a_ g)) 22 22] w fun e w'=>RFits l i x e/\Below w w w':=by
 have HL:=q_ hs.len;have hin:i<n:=by have:=(e_ hx).1;rw [HL.o] at this;exact this
 have hinI:(i:Int)<(n:Int):=by omega
 have hwi:IntKind.i64.wrap ((i:Int)+1)=(i:Int)+1:=by rw [IntKind.wrap_i64];omega
 have hwj:IntKind.i64.wrap ((i:Int) - 1)=(i:Int) - 1:=by rw [IntKind.wrap_i64];omega
 obtain ⟨ab,ao,rfl,hlo,hat⟩:=hs.at_ o_;obtain ⟨sa,sb,sc,sn,hst⟩:∃ sa sb sc sn,shAt k=(sa,sb,sc,sn):=⟨_,_,_,_,rfl⟩;have HN:=h_ ((sn=4/\k=7)\/(sn=6/\(k=11\/k=12))\/(sn=7/\k=13)\/(sn≠4/\sn≠6/\sn≠7/\k≠7/\k≠11/\k≠12/\k≠13)) xj_;have HN5:=h_ ((k=10->sn=5)/\(sn=0\/sn=1\/sn=2\/sn=3\/sn=4\/sn=5\/sn=6\/sn=7\/sn=8\/sn=9)) xk_;obtain ⟨W,hW,hWb,hWz,B0⟩:=af_ w [.slice (some (f_ ab ao)) n c,i_ v,i_ s] 26;have HS:=q_ (hs.up hWb);have HSH:=q_ (hsh.up hWb);have KV:=q_ (show ∀ (V w':World) (nq:Nat),V=((W.alloc (.cells #[i_ k,i_ x.a,i_ x.b,i_ x.c,i_ x.n] 202)).alloc (.cells #[.bool sa,.bool sb,.bool sc,i_ sn] 268)).drewN nq->Below V V w' →
   (w'.cell? (a_ w)=some (.slice (some (f_ ab ao)) n c)/\w'.cell? (f_ w 1)=some (i_ v)/\w'.cell? (f_ w 2)=some (i_ s)) ∧
   (w'.cell? (a_ W)=some (i_ k)/\w'.cell? (f_ W 1)=some (i_ x.a)/\w'.cell? (f_ W 2)=some (i_ x.b)/\w'.cell? (f_ W 3)=some (i_ x.c)/\w'.cell? (f_ W 4)=some (i_ x.n)) ∧
   (w'.cell? (a_ (W+1))=some (.bool sa)/\w'.cell? (f_ (W+1) 1)=some (.bool sb)/\w'.cell? (f_ (W+1) 2)=some (.bool sc)/\w'.cell? (f_ (W+1) 3)=some (i_ sn))/\Below w w w'/\Sl w' w' 5 In.cells (some (f_ ab ao)) n l from fun V w' nq hV hb=>by
  obtain ⟨U,hU,hUb,hUz,U0,U1⟩:=cb_ W [i_ k,i_ x.a,i_ x.b,i_ x.c,i_ x.n] 202 [.bool sa,.bool sb,.bool sc,i_ sn] 268
  rw [<-hU] at hV
  have hbU:Below U U w':=by
   have h1:Below U U V:=by rw [hV];exact below_drewN (b_) _
   exact h1.trans (hb.mono h1.size)
  have hbW:Below W W w':=hUb.trans (hbU.mono hUb.size)
  have b0:=B0.below hbW
  have b1:=U0.below hbU
  have b2:=U1.below hbU
  exact ⟨⟨b0.2.1 0 _ rfl,b0.2.1 1 _ rfl,b0.2.1 2 _ rfl⟩,⟨b1.2.1 0 _ rfl,b1.2.1 1 _ rfl,b1.2.1 2 _ rfl,b1.2.1 3 _ rfl,b1.2.1 4 _ rfl⟩,⟨b2.2.1 0 _ rfl,b2.2.1 1 _ rfl,b2.2.1 2 _ rfl,b2.2.1 3 _ rfl⟩,hWb.trans (hbW.mono hWb.size),HS.o.up hbW⟩)
 have x0:W.cell? ⟨ab,ao+i*5,none⟩=some (i_ k):=(belc hWb hlo).trans x0_;have x1:W.cell? ⟨ab,ao+i*5+1,none⟩=some (i_ x.a):=(belc hWb hlo).trans (hat i x hx 1 _ rfl);have x2:W.cell? ⟨ab,ao+i*5+2,none⟩=some (i_ x.b):=(belc hWb hlo).trans (hat i x hx 2 _ rfl);have x3:W.cell? ⟨ab,ao+i*5+3,none⟩=some (i_ x.c):=(belc hWb hlo).trans (hat i x hx 3 _ rfl);have x4:W.cell? ⟨ab,ao+i*5+4,none⟩=some (i_ x.n):=(belc hWb hlo).trans (hat i x hx 4 _ rfl);have d0:=B0.2.1 0 _ rfl;have s0:W.cell? ⟨g,k*4,none⟩=some (.bool sa):=by have:=sl_at HSH.o (sh_at hk22) (j:=0) rfl;rw [hst] at this;simpa using this
 have s1:W.cell? ⟨g,k*4+1,none⟩=some (.bool sb):=by have:=sl_at HSH.o (sh_at hk22) (j:=1) rfl;rw [hst] at this;simpa using this
 have s2:W.cell? ⟨g,k*4+2,none⟩=some (.bool sc):=by have:=sl_at HSH.o (sh_at hk22) (j:=2) rfl;rw [hst] at this;simpa using this
 have s3:W.cell? ⟨g,k*4+3,none⟩=some (i_ sn):=by have:=sl_at HSH.o (sh_at hk22) (j:=3) rfl;rw [hst] at this;simpa using this
 have hgW:g<W:=HSH.o.lt o_;have hlW:(w:Nat)<W:=by omega
 have haW:ab<W:=by omega
 have o1:¬((k:Int)<0):=by omega
 have o2:¬((21:Int)<(k:Int)):=by omega
 have o3:(k:Int)<22:=by omega
 have HO:=q_ hk;have HK22:=q_ hk22;clear hs hsh hat hx B0 hWb hWz hst hk HSH HS HL;go_enter func121,ntmps121;go_upto_region 1 with fail;rw [<-hW];clear hW;have e13:((k:Int) == 13)=true:=by simp [HKK]
 have e10:((k:Int) == 10)=false:=by simp [HKK]
 have HK:=q_ HKK;clear HKK;by_cases g1:x.b<0
 ·skip
  exact vb_
 by_cases g2:4<x.b
 ·skip
  exact vb_
 by_cases g3:x.c<x.b
 ·skip
  exact vb_
 by_cases g4:64<x.c
 ·skip
  exact vb_
 have HP:=h_ (0<=x.b/\x.b<=4/\x.b<=x.c/\x.c<=64) o_;go_upto_region 5 with fail;go_quiet (fail);obtain ⟨V,hV⟩:=ex_ (((W.alloc (.cells #[i_ k,i_ x.a,i_ x.b,i_ x.c,i_ x.n] 202)).alloc (.cells #[.bool sa,.bool sb,.bool sc,i_ sn] 268)).drewN nq);have HV:=q_ (Below.refl V V);have HQ:=q_ (fun w'=>KV.o V w' nq hV);clear x0 x1 x2 x3 x4 s0 s1 s2 s3 d0;obtain ⟨⟨c0,c1,c2⟩,⟨x0,x1,x2,x3,x4⟩,⟨s0,s1,s2,s3⟩,hbw2,hsl2⟩:=KV.o V V nq hV (b_);rw [<-hV];have hsl:=q_ hsl2;have hbw:=q_ hbw2;clear hV hbw2 hsl2 KV;obtain rfl:sn=7:=by have:=HN.o;have:=HK.o;omega
 go_wp2_with (first | (go_at_call 168;first | (refine (az_ x.a _ _).mono ?_;rintro e Y ⟨⟨rA,rfl,hA⟩,hY⟩;have HV2:=q_ (HV.o.trans (hY.mono HV.o.size));clear HV hY c0 c1 c2 x0 x1 x2 x3 x4 s0 s1 s2 s3 hbw hsl;have HV:=HV2;clear HV2;obtain ⟨⟨c0,c1,c2⟩,⟨x0,x1,x2,x3,x4⟩,⟨s0,s1,s2,s3⟩,hbw2,hsl2⟩:=HQ.o Y HV.o;have hbw:=q_ hbw2;have hsl:=q_ hsl2;clear hbw2 hsl2) | (refine (az_ x.b _ _).mono ?_;rintro e Y ⟨⟨rB,rfl,hB⟩,hY⟩;have HV2:=q_ (HV.o.trans (hY.mono HV.o.size));clear HV hY c0 c1 c2 x0 x1 x2 x3 x4 s0 s1 s2 s3 hbw hsl;have HV:=HV2;clear HV2;obtain ⟨⟨c0,c1,c2⟩,⟨x0,x1,x2,x3,x4⟩,⟨s0,s1,s2,s3⟩,hbw2,hsl2⟩:=HQ.o Y HV.o;have hbw:=q_ hbw2;have hsl:=q_ hsl2;clear hbw2 hsl2) | (refine (az_ x.c _ _).mono ?_;rintro e Y ⟨⟨rC,rfl,hC⟩,hY⟩;have HV2:=q_ (HV.o.trans (hY.mono HV.o.size));clear HV hY c0 c1 c2 x0 x1 x2 x3 x4 s0 s1 s2 s3 hbw hsl;have HV:=HV2;clear HV2;obtain ⟨⟨c0,c1,c2⟩,⟨x0,x1,x2,x3,x4⟩,⟨s0,s1,s2,s3⟩,hbw2,hsl2⟩:=HQ.o Y HV.o;have hbw:=q_ hbw2;have hsl:=q_ hsl2;clear hbw2 hsl2)) | (go_at_call 128;refine (op_any (some (f_ ab ao)) n c v s _ l _ hsl.o o_).mono ?_;rintro e Y ⟨⟨q,rfl,hq⟩,hY⟩;have HV2:=q_ (HV.o.trans (hY.mono HV.o.size));clear HV hY c0 c1 c2 x0 x1 x2 x3 x4 s0 s1 s2 s3 hbw hsl;have HV:=HV2;clear HV2;obtain ⟨⟨c0,c1,c2⟩,⟨x0,x1,x2,x3,x4⟩,⟨s0,s1,s2,s3⟩,hbw2,hsl2⟩:=HQ.o Y HV.o;have hbw:=q_ hbw2;have hsl:=q_ hsl2;clear hbw2 hsl2) | (go_at_call 169;refine (ep_ _ _).mono ?_;rintro e Y ⟨⟨ba,rfl⟩,hY⟩;have HV2:=q_ (HV.o.trans (hY.mono HV.o.size));clear HV hY c0 c1 c2 x0 x1 x2 x3 x4 s0 s1 s2 s3 hbw hsl;have HV:=HV2;clear HV2;obtain ⟨⟨c0,c1,c2⟩,⟨x0,x1,x2,x3,x4⟩,⟨s0,s1,s2,s3⟩,hbw2,hsl2⟩:=HQ.o Y HV.o;have hbw:=q_ hbw2;have hsl:=q_ hsl2;clear hbw2 hsl2) | (go_at_call 170;refine (Name_any _ _).mono ?_;rintro e Y ⟨⟨ns,nb,rfl⟩,hY⟩;have HV2:=q_ (HV.o.trans (hY.mono HV.o.size));clear HV hY c0 c1 c2 x0 x1 x2 x3 x4 s0 s1 s2 s3 hbw hsl;have HV:=HV2;clear HV2;obtain ⟨⟨c0,c1,c2⟩,⟨x0,x1,x2,x3,x4⟩,⟨s0,s1,s2,s3⟩,hbw2,hsl2⟩:=HQ.o Y HV.o;have hbw:=q_ hbw2;have hsl:=q_ hsl2;clear hbw2 hsl2));all_goals first | (go_ret;exact ⟨rfits_no l i x,hbw.o⟩) | (go_ret;exact ⟨⟨_,rfl,fun hh=>mkOk HO.o HK22.o (hA.o zi_) (fun h=>absurd HK.o h) (fun h=>absurd HK.o h) (fun _=>HP.o) (fun _=>hq.o.trans (by simpa using hh)) (fun h=>by have:=HK.o;omega) (fun h=>by have:=HK.o;omega)⟩,hbw.o⟩)
theorem fits_10 (A:OA) (n c:Nat) (v s:Int) (i:Nat) (l:List In) (x:In) (g k:Nat) (w:World) (hs:Sl w w 5 In.cells A n l) (hn:n<=2048) (hx:l[i]?=some x) (hsh:Sl w w 4 shCells (some (a_ g)) 22 shTab) (hk:x.op=k) (hk22:k<22) (HKK:k=10) :
  Calls prog 121 #[.agg #[.slice A n c,i_ v,i_ s],i_ i,.slice (some (a_ g)) 22 22] w fun e w'=>RFits l i x e/\Below w w w':=by
 have HL:=q_ hs.len;have hin:i<n:=by have:=(e_ hx).1;rw [HL.o] at this;exact this
 have hinI:(i:Int)<(n:Int):=by omega
 have hwi:IntKind.i64.wrap ((i:Int)+1)=(i:Int)+1:=by rw [IntKind.wrap_i64];omega
 have hwj:IntKind.i64.wrap ((i:Int) - 1)=(i:Int) - 1:=by rw [IntKind.wrap_i64];omega
 obtain ⟨ab,ao,rfl,hlo,hat⟩:=hs.at_ o_;obtain ⟨sa,sb,sc,sn,hst⟩:∃ sa sb sc sn,shAt k=(sa,sb,sc,sn):=⟨_,_,_,_,rfl⟩;have HN:=h_ ((sn=4/\k=7)\/(sn=6/\(k=11\/k=12))\/(sn=7/\k=13)\/(sn≠4/\sn≠6/\sn≠7/\k≠7/\k≠11/\k≠12/\k≠13)) xj_;have HN5:=h_ ((k=10->sn=5)/\(sn=0\/sn=1\/sn=2\/sn=3\/sn=4\/sn=5\/sn=6\/sn=7\/sn=8\/sn=9)) xk_;obtain ⟨W,hW,hWb,hWz,B0⟩:=af_ w [.slice (some (f_ ab ao)) n c,i_ v,i_ s] 26;have HS:=q_ (hs.up hWb);have HSH:=q_ (hsh.up hWb);have KV:=q_ (show ∀ (V w':World) (nq:Nat),V=((W.alloc (.cells #[i_ k,i_ x.a,i_ x.b,i_ x.c,i_ x.n] 202)).alloc (.cells #[.bool sa,.bool sb,.bool sc,i_ sn] 268)).drewN nq->Below V V w' →
   (w'.cell? (a_ w)=some (.slice (some (f_ ab ao)) n c)/\w'.cell? (f_ w 1)=some (i_ v)/\w'.cell? (f_ w 2)=some (i_ s)) ∧
   (w'.cell? (a_ W)=some (i_ k)/\w'.cell? (f_ W 1)=some (i_ x.a)/\w'.cell? (f_ W 2)=some (i_ x.b)/\w'.cell? (f_ W 3)=some (i_ x.c)/\w'.cell? (f_ W 4)=some (i_ x.n)) ∧
   (w'.cell? (a_ (W+1))=some (.bool sa)/\w'.cell? (f_ (W+1) 1)=some (.bool sb)/\w'.cell? (f_ (W+1) 2)=some (.bool sc)/\w'.cell? (f_ (W+1) 3)=some (i_ sn))/\Below w w w'/\Sl w' w' 5 In.cells (some (f_ ab ao)) n l from fun V w' nq hV hb=>by
  obtain ⟨U,hU,hUb,hUz,U0,U1⟩:=cb_ W [i_ k,i_ x.a,i_ x.b,i_ x.c,i_ x.n] 202 [.bool sa,.bool sb,.bool sc,i_ sn] 268
  rw [<-hU] at hV
  have hbU:Below U U w':=by
   have h1:Below U U V:=by rw [hV];exact below_drewN (b_) _
   exact h1.trans (hb.mono h1.size)
  have hbW:Below W W w':=hUb.trans (hbU.mono hUb.size)
  have b0:=B0.below hbW
  have b1:=U0.below hbU
  have b2:=U1.below hbU
  exact ⟨⟨b0.2.1 0 _ rfl,b0.2.1 1 _ rfl,b0.2.1 2 _ rfl⟩,⟨b1.2.1 0 _ rfl,b1.2.1 1 _ rfl,b1.2.1 2 _ rfl,b1.2.1 3 _ rfl,b1.2.1 4 _ rfl⟩,⟨b2.2.1 0 _ rfl,b2.2.1 1 _ rfl,b2.2.1 2 _ rfl,b2.2.1 3 _ rfl⟩,hWb.trans (hbW.mono hWb.size),HS.o.up hbW⟩)
 have x0:W.cell? ⟨ab,ao+i*5,none⟩=some (i_ k):=(belc hWb hlo).trans x0_;have x1:W.cell? ⟨ab,ao+i*5+1,none⟩=some (i_ x.a):=(belc hWb hlo).trans (hat i x hx 1 _ rfl);have x2:W.cell? ⟨ab,ao+i*5+2,none⟩=some (i_ x.b):=(belc hWb hlo).trans (hat i x hx 2 _ rfl);have x3:W.cell? ⟨ab,ao+i*5+3,none⟩=some (i_ x.c):=(belc hWb hlo).trans (hat i x hx 3 _ rfl);have x4:W.cell? ⟨ab,ao+i*5+4,none⟩=some (i_ x.n):=(belc hWb hlo).trans (hat i x hx 4 _ rfl);have d0:=B0.2.1 0 _ rfl;have s0:W.cell? ⟨g,k*4,none⟩=some (.bool sa):=by have:=sl_at HSH.o (sh_at hk22) (j:=0) rfl;rw [hst] at this;simpa using this
 have s1:W.cell? ⟨g,k*4+1,none⟩=some (.bool sb):=by have:=sl_at HSH.o (sh_at hk22) (j:=1) rfl;rw [hst] at this;simpa using this
 have s2:W.cell? ⟨g,k*4+2,none⟩=some (.bool sc):=by have:=sl_at HSH.o (sh_at hk22) (j:=2) rfl;rw [hst] at this;simpa using this
 have s3:W.cell? ⟨g,k*4+3,none⟩=some (i_ sn):=by have:=sl_at HSH.o (sh_at hk22) (j:=3) rfl;rw [hst] at this;simpa using this
 have hgW:g<W:=HSH.o.lt o_;have hlW:(w:Nat)<W:=by omega
 have haW:ab<W:=by omega
 have o1:¬((k:Int)<0):=by omega
 have o2:¬((21:Int)<(k:Int)):=by omega
 have o3:(k:Int)<22:=by omega
 have HO:=q_ hk;have HK22:=q_ hk22;clear hs hsh hat hx B0 hWb hWz hst hk HSH HS HL;go_enter func121,ntmps121;go_upto_region 1 with fail;rw [<-hW];clear hW;have e13:((k:Int) == 13)=false:=by simp [HKK]
 have e10:((k:Int) == 10)=true:=by simp [HKK]
 have HK:=q_ HKK;clear HKK;obtain rfl:sn=5:=HN5.o.1 HK.o;go_upto_region 5 with fail;go_quiet (fail);obtain ⟨V,hV⟩:=ex_ (((W.alloc (.cells #[i_ k,i_ x.a,i_ x.b,i_ x.c,i_ x.n] 202)).alloc (.cells #[.bool sa,.bool sb,.bool sc,i_ 5] 268)).drewN nq);have HV:=q_ (Below.refl V V);have HQ:=q_ (fun w'=>KV.o V w' nq hV);clear x0 x1 x2 x3 x4 s0 s1 s2 s3 d0;obtain ⟨⟨c0,c1,c2⟩,⟨x0,x1,x2,x3,x4⟩,⟨s0,s1,s2,s3⟩,hbw2,hsl2⟩:=KV.o V V nq hV (b_);rw [<-hV];have hsl:=q_ hsl2;have hbw:=q_ hbw2;clear hV hbw2 hsl2 KV;go_wp2_with fail;refine (az_ x.a _ _).mono ?_;rintro e Y ⟨⟨rA,rfl,hA⟩,hY⟩;have HV2:=q_ (HV.o.trans (hY.mono HV.o.size));clear HV hY c0 c1 c2 x0 x1 x2 x3 x4 s0 s1 s2 s3 hbw hsl;have HV:=HV2;clear HV2;obtain ⟨⟨c0,c1,c2⟩,⟨x0,x1,x2,x3,x4⟩,⟨s0,s1,s2,s3⟩,hbw2,hsl2⟩:=HQ.o Y HV.o;have hbw:=q_ hbw2;have hsl:=q_ hsl2;clear hbw2 hsl2;cases rA
 ·exact cfL
 go_wp2_with fail;refine (az_ x.c _ _).mono ?_;rintro e Y ⟨⟨rC,rfl,hC⟩,hY⟩;have HV2:=q_ (HV.o.trans (hY.mono HV.o.size));clear HV hY c0 c1 c2 x0 x1 x2 x3 x4 s0 s1 s2 s3 hbw hsl;have HV:=HV2;clear HV2;obtain ⟨⟨c0,c1,c2⟩,⟨x0,x1,x2,x3,x4⟩,⟨s0,s1,s2,s3⟩,hbw2,hsl2⟩:=HQ.o Y HV.o;have hbw:=q_ hbw2;have hsl:=q_ hsl2;clear hbw2 hsl2;cases rC
 ·exact cfL
 go_wp2_with fail;refine (ep_ _ _).mono ?_;rintro e Y ⟨⟨ba,rfl⟩,hY⟩;have HV2:=q_ (HV.o.trans (hY.mono HV.o.size));clear HV hY c0 c1 c2 x0 x1 x2 x3 x4 s0 s1 s2 s3 hbw hsl;have HV:=HV2;clear HV2;obtain ⟨⟨c0,c1,c2⟩,⟨x0,x1,x2,x3,x4⟩,⟨s0,s1,s2,s3⟩,hbw2,hsl2⟩:=HQ.o Y HV.o;have hbw:=q_ hbw2;have hsl:=q_ hsl2;clear hbw2 hsl2;cases ba
 ·exact cfL
 go_wp2_with (first | (go_at_call 168;first | (refine (az_ x.a _ _).mono ?_;rintro e Y ⟨⟨rA,rfl,hA⟩,hY⟩;have HV2:=q_ (HV.o.trans (hY.mono HV.o.size));clear HV hY c0 c1 c2 x0 x1 x2 x3 x4 s0 s1 s2 s3 hbw hsl;have HV:=HV2;clear HV2;obtain ⟨⟨c0,c1,c2⟩,⟨x0,x1,x2,x3,x4⟩,⟨s0,s1,s2,s3⟩,hbw2,hsl2⟩:=HQ.o Y HV.o;have hbw:=q_ hbw2;have hsl:=q_ hsl2;clear hbw2 hsl2) | (refine (az_ x.b _ _).mono ?_;rintro e Y ⟨⟨rB,rfl,hB⟩,hY⟩;have HV2:=q_ (HV.o.trans (hY.mono HV.o.size));clear HV hY c0 c1 c2 x0 x1 x2 x3 x4 s0 s1 s2 s3 hbw hsl;have HV:=HV2;clear HV2;obtain ⟨⟨c0,c1,c2⟩,⟨x0,x1,x2,x3,x4⟩,⟨s0,s1,s2,s3⟩,hbw2,hsl2⟩:=HQ.o Y HV.o;have hbw:=q_ hbw2;have hsl:=q_ hsl2;clear hbw2 hsl2) | (refine (az_ x.c _ _).mono ?_;rintro e Y ⟨⟨rC,rfl,hC⟩,hY⟩;have HV2:=q_ (HV.o.trans (hY.mono HV.o.size));clear HV hY c0 c1 c2 x0 x1 x2 x3 x4 s0 s1 s2 s3 hbw hsl;have HV:=HV2;clear HV2;obtain ⟨⟨c0,c1,c2⟩,⟨x0,x1,x2,x3,x4⟩,⟨s0,s1,s2,s3⟩,hbw2,hsl2⟩:=HQ.o Y HV.o;have hbw:=q_ hbw2;have hsl:=q_ hsl2;clear hbw2 hsl2)) | (go_at_call 128;refine (op_any (some (f_ ab ao)) n c v s _ l _ hsl.o o_).mono ?_;rintro e Y ⟨⟨q,rfl,hq⟩,hY⟩;have HV2:=q_ (HV.o.trans (hY.mono HV.o.size));clear HV hY c0 c1 c2 x0 x1 x2 x3 x4 s0 s1 s2 s3 hbw hsl;have HV:=HV2;clear HV2;obtain ⟨⟨c0,c1,c2⟩,⟨x0,x1,x2,x3,x4⟩,⟨s0,s1,s2,s3⟩,hbw2,hsl2⟩:=HQ.o Y HV.o;have hbw:=q_ hbw2;have hsl:=q_ hsl2;clear hbw2 hsl2) | (go_at_call 169;refine (ep_ _ _).mono ?_;rintro e Y ⟨⟨ba,rfl⟩,hY⟩;have HV2:=q_ (HV.o.trans (hY.mono HV.o.size));clear HV hY c0 c1 c2 x0 x1 x2 x3 x4 s0 s1 s2 s3 hbw hsl;have HV:=HV2;clear HV2;obtain ⟨⟨c0,c1,c2⟩,⟨x0,x1,x2,x3,x4⟩,⟨s0,s1,s2,s3⟩,hbw2,hsl2⟩:=HQ.o Y HV.o;have hbw:=q_ hbw2;have hsl:=q_ hsl2;clear hbw2 hsl2) | (go_at_call 170;refine (Name_any _ _).mono ?_;rintro e Y ⟨⟨ns,nb,rfl⟩,hY⟩;have HV2:=q_ (HV.o.trans (hY.mono HV.o.size));clear HV hY c0 c1 c2 x0 x1 x2 x3 x4 s0 s1 s2 s3 hbw hsl;have HV:=HV2;clear HV2;obtain ⟨⟨c0,c1,c2⟩,⟨x0,x1,x2,x3,x4⟩,⟨s0,s1,s2,s3⟩,hbw2,hsl2⟩:=HQ.o Y HV.o;have hbw:=q_ hbw2;have hsl:=q_ hsl2;clear hbw2 hsl2));all_goals first | (go_ret;exact ⟨rfits_no l i x,hbw.o⟩) | (go_ret;exact ⟨⟨_,rfl,fun hh=>mkOk HO.o HK22.o (hA.o zi_) (fun _ h=>absurd HK.o h) (fun _=>hC.o zi_) (fun h=>by have:=HK.o;omega) (fun h=>by have:=HK.o;omega) (fun h=>by have:=HK.o;omega) (fun h=>by have:=HK.o;omega)⟩,hbw.o⟩)
theorem OwT.addr {X:NP} {w:World} {K base n c:Nat} {et:TypeId} {e:List CT} {A:OA} (h:OwT w base et e X K A n c) (hn:0<n):∃ g,A=some (a_ g)/\base<=g/\g<w/\∀ j,w.frozen? (f_ g j)=false:=by
 obtain ⟨xs,ho,_⟩:=h;exact dp_ ho hn
theorem OwT.lo {X:NP} {w:World} {K base n c k:Nat} {et:TypeId} {e:List CT} {A:OA} (h:OwT w base et e X K A n c) (hk:(Value.slice A n c).ownBlock=some k):base<=k/\k<w:=by
 obtain ⟨xs,ho,_⟩:=h;exact am_ ho hk
theorem put_t (X:NP) (K:Nat) (A:OA) (n c:Nat) (y:Cl) (w:World) (ha:SlT w X K ap_ A n c) (hK:K<=100000000000) (hX:∀ k,X k->k<w) :
  Calls prog 80 #[.slice A n c,.agg #[i_ y.id,i_ y.field,.bool y.ref,i_ y.n]] w fun e w'=>RSl X (K+1) ap_ e w'/\Below w w w':=by
 obtain ⟨i0,A3,A9,A8,A0⟩:=info_parts infoCl;obtain ⟨W,hW,Af,Al,B0⟩:=af_ w [i_ y.id,i_ y.field,.bool y.ref,i_ y.n] 87;have KB:=q_ (fun w' (hb:Below W W w')=>B0.below hb);have Av:=ha.le;have HA:=h_ (SlT W (Wi X (Value.slice none 0 0).ownBlock) (K+1) ap_ A n c) ((ha.up (Kp.of_below Af) (Nat.le_refl K)).kept (Kp.refl _ _) (fun k _ h h2=>by rcases h2 with h2 | h2;exact h h2;cases h2) o_);have HW:=q_ Af;have Ao:(w:Nat)<W:=by omega
 have A2:=h_ (∀ k,X k->k<W) (fun k hk=>by have:=hX k hk;omega);clear ha hX B0 Af Al;go_enter func80,ntmps80;go_upto_region 1 with fail;rw [<-hW];clear hW;go_upto_region 2 with (at_builtin;refine ao_ rfl _ _ 54 rfl W 87 i0 _ 32 ap_ X (K+1) underlying54 A3 A9 A8 A0 rfl d_ none 0 0 zc_ (OwT.nil _ _ _ _ _ _) A n c zc_ HA.o A2.o m_ o_ (l_) ?_;intro A4 c4 w4 o4 g4 l4;rw [Nat.zero_add] at o4 l4 ⊢;have b4:Below W W w4:=aj_ g4 (l_) (fun k hk=>by cases hk);have z4:=b4.size;have O4:=q_ o4;clear o4 l4 g4);have k0:=(KB.o w4 b4).2.1 0 _ rfl;have k1:=(KB.o w4 b4).2.1 1 _ rfl;have B4:=q_ b4;clear b4;go_wp2_with fail;refine (at_t X (K+1) A4 n c4 y.id y.field w4 (O4.o.slT A2.o o_) o_).mono ?_;rintro e w5 ⟨⟨q,rfl,hq⟩,Ag⟩;have B5:=q_ (B4.o.trans (Ag.mono z4));have z5:=B5.o.size;have O5:=q_ (O4.o.below Ag);clear Ag k0 k1;have k0:=(KB.o w5 B5.o).2.1 0 _ rfl;have k1:=(KB.o w5 B5.o).2.1 1 _ rfl;have k2:=(KB.o w5 B5.o).2.1 2 _ rfl;have k3:=(KB.o w5 B5.o).2.1 3 _ rfl;rcases hq.o with h | ⟨i,hi,h⟩
 ·subst h;have Ap:n<=c4:=(O5.o.slT A2.o (by omega:n<=K+1)).cap;have H5:=q_ (O5.o.slT A2.o (by omega:n<=K+1));go_upto_region 7 with fail;go_loopw [6] (fun iv wr=>∃ k:Nat,k<=n/\iv=i_ k/\Below w5 w5 wr) (fun iv _=>n - (intOf iv).toNat)
  case atStart=>exact ⟨0,o_,rfl,b_⟩
  obtain ⟨k,hk,rfl,hb⟩:=hrel;have Ac:Below W W wr:=B5.o.trans (hb.mono z5);have k0:=(KB.o wr Ac).2.1 0 _ rfl;have k1:=(KB.o wr Ac).2.1 1 _ rfl;by_cases hlt:k<n
  ·have Ah:(k:Int)<(n:Int):=by omega
   obtain ⟨g,o,hA,_,x,hx⟩:=H5.o.dr_ hlt;subst hA;obtain ⟨c0,c1,c2,c3⟩:=hx wr hb;clear hx Ac;have HB:=q_ hb;by_cases h1:x.id<y.id
   ·clear hb;go_wp2_with fail;go_quiet (fail);go_wp2;go_roundw
    case rel=>exact ⟨k+1,o_,zb_,below_drewN ((bel HB.o)) _⟩
    case measure=>exact me_
   by_cases h2:x.id=y.id
   ·by_cases h3:x.field<y.field
    ·clear hb;go_wp2_with fail;go_quiet (fail);go_wp2;go_roundw
     case rel=>exact ⟨k+1,o_,zb_,below_drewN ((bel HB.o)) _⟩
     case measure=>exact me_
    skip
    go_wp2_with fail;go_quiet (fail);go_upto_region 9 with fail;obtain ⟨A4,Aa⟩:=ex_ (some ((f_ g o):Addr));have H5:=q_ H5.o;rw [<-Aa] at H5 ⊢;clear Aa c0 c1 c2 c3;have hb:Below w5 w5 (wr.drewN nq):=below_drewN hb _;obtain ⟨V,hV⟩:=ex_ (wr.drewN nq);rw [<-hV] at hb ⊢;clear hV;have A1:Below W W V:=B5.o.trans (hb.mono z5);have zV:=A1.size;have Ak:=hb.size;have k0:=(KB.o V A1).2.1 0 _ rfl;have k1:=(KB.o V A1).2.1 1 _ rfl;have k2:=(KB.o V A1).2.1 2 _ rfl;have k3:=(KB.o V A1).2.1 3 _ rfl;have hd:Below V V V.drew:=Below.drew (b_);have HU:=h_ (∀ a b r m,SlT (V.drew.alloc (.cells #[i_ a,i_ b,.bool r,i_ m] 87)) X (K+1) ap_ (some (a_ V)) 1 1) (fun a b r m=>SlT.lit1 (w:=V.drew) (e:=ap_) (dz_ a b r m) _ (fun h=>by have:=A2.o _ h;have:(V.drew:Nat)=V:=rfl;omega) o_);have A5:=h_ (∀ o,Below V V (V.drew.alloc o)) (fun o=>hd.alloc (l_) o);have H9:=q_ (H5.o.up (Kp.of_below hb) (l_));have Ai:∀ w',(Instr.slice 54 (.slice A4 n c4) none (some (i_ (k:Int))) (some (i_ (k:Int)))).run prog w'=.ok (.slice A4 k k) w':=el_ underlying54 A3 o_;have Aj:∀ w',(Instr.slice 54 (.slice A4 n c4) (some (i_ (k:Int))) none none).run prog w'=.ok (.slice (cutA A4 c4 k 4) (n - k) (c4 - k)) w':=fun w'=>by rw [es_ underlying54 A3 o_,A8]
    clear hd;go_region_law (first
     | (refine bo_ rfl (.tmp 63) (.tmp 66) 54 rfl 87 i0 _ 32 ap_ X (K+1) underlying54 A3 A9 A8 A0 rfl d_ (some (a_ V)) 1 1 v_ (HU.o _ _ _ _) (cutA A4 c4 k 4) (n - k) (c4 - k) zt_ ((H9.o.up (Kp.of_below (A5.o _)) (l_)).drop hk) o_ o_ (fun q A0=>by have:=A2.o q A0;first | (simp;omega) | (simp <;> omega)) m_ o_ ?_;intro A6 c6 w6 o6 b6;have b6:Below V V w6:=(A5.o _).trans (b6.mono (A5.o _).size);have Ad:=q_ (o6.slT (K:=K+1) (fun q A0=>by have:=A2.o q A0;first | (simp;omega) | (simp <;> omega)) o_);clear o6)
     | (refine bo_ rfl (.tmp 61) (.tmp 67) 54 rfl 87 i0 _ 32 ap_ X (K+1) underlying54 A3 A9 A8 A0 rfl d_ A4 k k v_ ((H9.o.up (Kp.of_below b6) (l_)).take hk k (l_) o_) A6 (1+(n - k)) c6 v_ Ad.o o_ o_ (fun q A0=>by have:=A2.o q A0;have:=b6.size;omega) m_ o_ ?_;intro A7 c7 w7 o7 b7;have b7:Below V V w7:=b6.trans (b7.mono (show (V:Nat)<=_ from b6.size));have O7:=q_ o7;clear o7))
    all_goals
     exact ul_
   skip
   go_wp2_with fail;go_quiet (fail);go_upto_region 9 with fail;obtain ⟨A4,Aa⟩:=ex_ (some ((f_ g o):Addr));have H5:=q_ H5.o;rw [<-Aa] at H5 ⊢;clear Aa c0 c1 c2 c3;have hb:Below w5 w5 (wr.drewN nq):=below_drewN hb _;obtain ⟨V,hV⟩:=ex_ (wr.drewN nq);rw [<-hV] at hb ⊢;clear hV;have A1:Below W W V:=B5.o.trans (hb.mono z5);have zV:=A1.size;have Ak:=hb.size;have k0:=(KB.o V A1).2.1 0 _ rfl;have k1:=(KB.o V A1).2.1 1 _ rfl;have k2:=(KB.o V A1).2.1 2 _ rfl;have k3:=(KB.o V A1).2.1 3 _ rfl;have hd:Below V V V.drew:=Below.drew (b_);have HU:=h_ (∀ a b r m,SlT (V.drew.alloc (.cells #[i_ a,i_ b,.bool r,i_ m] 87)) X (K+1) ap_ (some (a_ V)) 1 1) (fun a b r m=>SlT.lit1 (w:=V.drew) (e:=ap_) (dz_ a b r m) _ (fun h=>by have:=A2.o _ h;have:(V.drew:Nat)=V:=rfl;omega) o_);have A5:=h_ (∀ o,Below V V (V.drew.alloc o)) (fun o=>hd.alloc (l_) o);have H9:=q_ (H5.o.up (Kp.of_below hb) (l_));have Ai:∀ w',(Instr.slice 54 (.slice A4 n c4) none (some (i_ (k:Int))) (some (i_ (k:Int)))).run prog w'=.ok (.slice A4 k k) w':=el_ underlying54 A3 o_;have Aj:∀ w',(Instr.slice 54 (.slice A4 n c4) (some (i_ (k:Int))) none none).run prog w'=.ok (.slice (cutA A4 c4 k 4) (n - k) (c4 - k)) w':=fun w'=>by rw [es_ underlying54 A3 o_,A8]
   clear hd;go_region_law (first
    | (refine bo_ rfl (.tmp 63) (.tmp 66) 54 rfl 87 i0 _ 32 ap_ X (K+1) underlying54 A3 A9 A8 A0 rfl d_ (some (a_ V)) 1 1 v_ (HU.o _ _ _ _) (cutA A4 c4 k 4) (n - k) (c4 - k) zt_ ((H9.o.up (Kp.of_below (A5.o _)) (l_)).drop hk) o_ o_ (fun q A0=>by have:=A2.o q A0;first | (simp;omega) | (simp <;> omega)) m_ o_ ?_;intro A6 c6 w6 o6 b6;have b6:Below V V w6:=(A5.o _).trans (b6.mono (A5.o _).size);have Ad:=q_ (o6.slT (K:=K+1) (fun q A0=>by have:=A2.o q A0;first | (simp;omega) | (simp <;> omega)) o_);clear o6)
    | (refine bo_ rfl (.tmp 61) (.tmp 67) 54 rfl 87 i0 _ 32 ap_ X (K+1) underlying54 A3 A9 A8 A0 rfl d_ A4 k k v_ ((H9.o.up (Kp.of_below b6) (l_)).take hk k (l_) o_) A6 (1+(n - k)) c6 v_ Ad.o o_ o_ (fun q A0=>by have:=A2.o q A0;have:=b6.size;omega) m_ o_ ?_;intro A7 c7 w7 o7 b7;have b7:Below V V w7:=b6.trans (b7.mono (show (V:Nat)<=_ from b6.size));have O7:=q_ o7;clear o7))
   all_goals
    exact ul_
  have Ah:¬(k:Int)<(n:Int):=by omega
  obtain rfl:k=n:=by omega
  have hz:k - k=0:=by omega
  clear Ac;go_wp2_with fail;go_quiet (fail);go_upto_region 9 with fail;have hb:Below w5 w5 (wr.drewN nq):=below_drewN hb _;obtain ⟨V,hV⟩:=ex_ (wr.drewN nq);rw [<-hV] at hb ⊢;clear hV;have A1:Below W W V:=B5.o.trans (hb.mono z5);have zV:=A1.size;have Ak:=hb.size;have k0:=(KB.o V A1).2.1 0 _ rfl;have k1:=(KB.o V A1).2.1 1 _ rfl;have k2:=(KB.o V A1).2.1 2 _ rfl;have k3:=(KB.o V A1).2.1 3 _ rfl;have hd:Below V V V.drew:=Below.drew (b_);have HU:=h_ (∀ a b r m,SlT (V.drew.alloc (.cells #[i_ a,i_ b,.bool r,i_ m] 87)) X (K+1) ap_ (some (a_ V)) 1 1) (fun a b r m=>SlT.lit1 (w:=V.drew) (e:=ap_) (dz_ a b r m) _ (fun h=>by have:=A2.o _ h;have:(V.drew:Nat)=V:=rfl;omega) o_);have A5:=h_ (∀ o,Below V V (V.drew.alloc o)) (fun o=>hd.alloc (l_) o);have H9:=q_ (H5.o.up (Kp.of_below hb) (l_));have Ai:∀ w',(Instr.slice 54 (.slice A4 k c4) none (some (i_ (k:Int))) (some (i_ (k:Int)))).run prog w'=.ok (.slice A4 k k) w':=el_ underlying54 A3 o_;have Aj:∀ w',(Instr.slice 54 (.slice A4 k c4) (some (i_ (k:Int))) none none).run prog w'=.ok (.slice (cutA A4 c4 k 4) (k - k) (c4 - k)) w':=fun w'=>by rw [es_ underlying54 A3 o_,A8]
  clear hd;go_region_law (first
   | (refine step_append_zero rfl (.tmp 63) (.tmp 66) 54 rfl 87 i0 underlying54 A3 (some (a_ V)) 1 1 (l_) v_ (cutA A4 c4 k 4) (c4 - k) zt_ ?_)
   | (refine bo_ rfl (.tmp 61) (.tmp 67) 54 rfl 87 i0 _ 32 ap_ X (K+1) underlying54 A3 A9 A8 A0 rfl d_ A4 k k v_ ((H9.o.up (Kp.of_below (A5.o _)) (l_)).take hk k (l_) o_) (some (a_ V)) 1 1 v_ (HU.o _ _ _ _) o_ o_ (fun q A0=>by have:=A2.o q A0;first | (simp;omega) | (simp <;> omega)) m_ o_ ?_;intro A7 c7 w7 o7 b7;have b7:Below V V w7:=(A5.o _).trans (b7.mono (show (V:Nat)<=_ from (A5.o _).size));have O7:=q_ o7;clear o7))
  all_goals
   go_wp2;go_ret;exact ⟨⟨_,_,_,rfl,q_ (O7.o.slT (fun q A0=>by have:=A2.o q A0;have:=b7.size;simp <;> omega) o_)⟩,(HW.o.trans (A1.mono HW.o.size)).trans (b7.mono xh_)⟩
 subst h;have Au:(i:Int)<(n:Int):=by omega
 have An:¬(i:Int)<0:=by omega
 obtain ⟨g,rfl,Aq,Ar,Ab⟩:=O5.o.addr o_;obtain ⟨g',o',Ae,_,x,hx⟩:=(O5.o.slT A2.o (by omega:n<=K+1)).dr_ hi;injection Ae with Ae;injection Ae with h1 h2;subst h1 h2;obtain ⟨c0,c1,c2,c3⟩:=hx w5 (b_);rw [Nat.zero_add] at c0 c1 c2 c3;have f0:=Ab (i*4);have f1:=Ab (i*4+1);have f2:=Ab (i*4+2);have f3:=Ab (i*4+3);have As:w≠g:=by omega
 clear hx Ab;go_wp2;go_ret;have s0:=O5.o.set (k:=i) (j:=0) hi rfl (.num y.id) ⟨g,i*4,none⟩ rfl;have s1:=s0.set (k:=i) (j:=1) hi rfl (.num y.field) ⟨g,i*4+1,none⟩ rfl;have s2:=s1.set (k:=i) (j:=2) hi rfl (.tru y.ref) ⟨g,i*4+2,none⟩ rfl;have s3:=s2.set (k:=i) (j:=3) hi rfl (.num y.n) ⟨g,i*4+3,none⟩ rfl;have Am:Below w w w5:=HW.o.trans (B5.o.mono HW.o.size);exact ⟨⟨_,_,_,rfl,q_ (s3.slT A2.o o_)⟩,(((Am.setCell z7_ _).setCell z7_ _).setCell z7_ _).setCell z7_ _⟩
theorem Read_t (X:NP) (K:Nat) (A:OA) (n c:Nat) (id f:Int) (w:World) (h:SlT w X K objT A n c) (hK:K<=8796093021952) :
  Calls prog 17 #[.agg #[.slice A n c],i_ id,i_ f] w fun e w'=>(∃ (v:Val) (b:Bool),e=.returned (.tuple #[.agg #[.bool v.ref,i_ v.n],.bool b]))/\Below w w w':=by
 obtain ⟨l,hs,_⟩:=h.hp hK;refine (refread_any A n c l id f w hs (Nat.le_trans h.le o_)).mono ?_;rintro e w' ⟨rfl,hb⟩;exact ⟨⟨_,_,rfl⟩,hb⟩
theorem Reduced_t (X:NP) (K:Nat) (A:OA) (n c:Nat) (L:Nat) (B:OA) (m d:Nat) (w:World) (h:SlT w X K objT A n c) (hK:K<=4398046510976) (hl:SlT w X L bj_ B m d) (hL:L<=4398046510976) (hX:∀ k,X k->k<w) :
  Calls prog 134 #[.agg #[.slice A n c],.slice B m d] w fun e w'=>RH X K e w'/\Below w w w':=by
 obtain ⟨W,hW,A5,AA,B0,B1⟩:=cb_ w [.slice A n c] 35 [.slice none 0 0] 35;have H:=q_ (h.kept (Y:=fun k=>X k\/k=w\/k=w+1) (Kp.of_below A5) (fun k hk h1 h2=>by rcases h2 with h2 | h2 | h2;exact h1 h2;omega;omega) (Nat.le_refl K));have HL:=q_ (hl.kept (Y:=fun k=>X k\/k=w\/k=w+1) (Kp.of_below A5) (fun k hk h1 h2=>by rcases h2 with h2 | h2 | h2;exact h1 h2;omega;omega) (Nat.le_refl L));have HW:=q_ A5;have Aj:=q_ B0;have Ak:=q_ B1;have hm:m<=4398046510976:=Nat.le_trans hl.le hL;have Av:=h_ (∀ k,(X k\/k=w\/k=w+1)->k<W) (fun k hk=>by rcases hk with hk | hk | hk;have:=hX k hk;omega;omega;omega);have AD:=q_ hX;have AE:(w:Nat)<W:=by omega
 have AF:(w:Nat)+1<W:=by omega
 clear h hl hX B0 B1 A5 AA;go_enter func134,ntmps134;go_upto_region 1 with fail;rw [<-hW];clear hW;go_upto_region 2 with fail;go_loopw [13] (fun i wr=>∃ (k:Nat) (C:OA) (q d:Nat),k<=m/\i=i_ k/\Hid (SlT wr (fun k=>X k\/k=w\/k=w+1) K objT C q d)/\Hid (Bx wr w [.slice C q d])/\Hid (Bx wr (w+1) [.slice none 0 0])/\Hid (Kp (fun k=>k=w) W wr)) (fun i _=>m - (intOf i).toNat)
 case atStart=>exact ⟨0,A,n,c,o_,rfl,H,Aj,Ak,q_ (Kp.refl _ _)⟩
 obtain ⟨k,C,q,d2,hk,rfl,hC,A6,A7,A8⟩:=hrel;have AH:=A8.o.size;have c0:=A6.o.2.1 0 _ rfl;have f0:=A6.o.2.2;have e0:=A7.o.2.1 0 _ rfl;have g0:=A7.o.2.2;by_cases hlt:k<m
 ·have Ac:(k:Int)<(m:Int):=by omega
  obtain ⟨g,o,rfl,hg,x,hx⟩:=(HL.o.up (A8.o.mono (fun k _ h=>.inr (.inl h))) (Nat.le_refl L)).delta_at hlt;obtain ⟨c4,c5,c6,c7,c9⟩:=hx wr (b_);obtain ⟨V,hV,A0,Az,V0⟩:=af_ wr [i_ x.id,i_ x.field,i_ x.op,.bool x.ref,i_ x.n] 174;have v0:=V0.2.1 0 _ rfl;have v1:=V0.2.1 1 _ rfl;have c8:=(A6.o.below A0).2.1 0 _ rfl;have As:=q_ (A6.o.below A0);have Au:=q_ (A7.o.below A0);have A4:=q_ V0;have Ae:=q_ (hC.o.up (Kp.of_below A0) (Nat.le_refl K));have Ao:=q_ (A8.o.trans (.of_below A0));clear hx A0 Az V0 c0 f0 e0 g0;go_upto_region 4 with fail;rw [<-hV];clear hV c4 c5 c6 c7 c9;go_wp2_with fail;refine (Read_t (fun k=>X k\/k=w\/k=w+1) K C q d2 x.id x.field V Ae.o o_).mono ?_;rintro e Y ⟨⟨v,b,rfl⟩,hY⟩;obtain ⟨U,hU,Ai,Ay,U0⟩:=af_ Y [.bool v.ref,i_ v.n] 38;have A1:Below V V U:=hY.trans (Ai.mono hY.size);have Aq:=q_ (As.o.below A1);have Ar:=q_ (Au.o.below A1);have A3:=q_ (A4.o.below A1);have AC:=q_ U0;have Al:=q_ (Ae.o.up (Kp.of_below A1) (Nat.le_refl K));have An:=q_ (Ao.o.trans (.of_below A1));have y0:=(A4.o.below hY).2.1 2 _ rfl;have y1:=(A4.o.below hY).2.1 3 _ rfl;have y2:=(A4.o.below hY).2.1 4 _ rfl;have u0:=A3.o.2.1 2 _ rfl;have u1:=A3.o.2.1 3 _ rfl;have u2:=A3.o.2.1 4 _ rfl;have u3:=U0.2.1 0 _ rfl;have u4:=U0.2.1 1 _ rfl;clear hY A1 Ai Ay U0 c8 v0 v1;go_upto_region 5 with fail;rw [<-hU];clear hU y0 y1 y2;go_wp2_with fail;refine (Apply_any x.op v ⟨x.ref,x.n⟩ U).mono ?_;rintro e Z ⟨⟨nn,ff,rfl⟩,hZ⟩;obtain ⟨T,hT,Ah,Ax,T0⟩:=af_ Z [.bool false,i_ nn] 38;have A2:Below U U T:=hZ.trans (Ah.mono hZ.size);have Ab:=q_ (Aq.o.below A2);have Ag:=q_ (Ar.o.below A2);have Af:=q_ (A3.o.below A2);have AB:=q_ T0;have Ad:=q_ (Al.o.up (Kp.of_below A2) (Nat.le_refl K));have A9:=q_ (An.o.trans (.of_below A2));have t0:=Ab.o.2.1 0 _ rfl;have t1:=Af.o.2.1 0 _ rfl;have t2:=Af.o.2.1 1 _ rfl;have t3:=T0.2.1 0 _ rfl;have t4:=T0.2.1 1 _ rfl;have AG:=A9.o.size;clear hZ A2 Ah Ax T0 u0 u1 u2 u3 u4;go_upto_region 6 with fail;rw [<-hT];clear hT;go_wp2_with (go_at_call 129;refine (Write_t (fun k=>X k\/k=w\/k=w+1) K C q d2 x.id x.field ⟨false,nn⟩ T Ad.o hK (fun k hk=>by have:=Av.o k hk;omega)).mono ?_;rintro e S ⟨⟨C2,q2,d3,b2,rfl,Aw⟩,hS⟩;have Aa:=q_ (Ab.o.below hS);have Ap:=q_ (Ag.o.below hS);have Am:=q_ (A9.o.trans (.of_below hS));have s0:=Aa.o.2.1 0 _ rfl;have s1:=Aa.o.2.2;clear hS);all_goals first
   | (go_roundw
      case rel=>exact ⟨k+1,C2,q2,d3,o_,zb_,q_ (Aw.o.up ((Kp.refl _ S).setCell (.inl (.inr (.inl rfl))) _) (Nat.le_refl K)),q_ (Aa.o.set 0 _),q_ (Ap.o.far z1_ _),q_ (Am.o.setCell (.inl rfl) _)⟩
      case measure=>exact me_)
   | (go_roundw
      case rel=>exact ⟨k+1,C,q,d2,o_,zb_,Ad,Ab,Ag,A9⟩
      case measure=>exact me_)
 have Ac:¬(k:Int)<(m:Int):=by omega
 go_wp2;refine retC results134 za_ underlying35 rfl k_ (cs:=[_]) (A7.o.set 0 _).whole rfl ?_;have hb:Below w w (wr.setCell (a_ (w+1)) (.slice C q d2)):=(HW.o.trans (A8.o.below (B:=w) o_ (fun k hk h=>o_))).setCell z3_ _;exact uf_
theorem Written_t (X:NP) (K:Nat) (A:OA) (n c:Nat) (L:Nat) (B:OA) (m d:Nat) (w:World) (h:SlT w X K objT A n c) (hK:K<=4398046510976) (hl:SlT w X L ap_ B m d) (hL:L<=4398046510976) (hX:∀ k,X k->k<w) :
  Calls prog 135 #[.agg #[.slice A n c],.slice B m d] w fun e w'=>RH X K e w'/\Below w w w':=by
 obtain ⟨W,hW,A2,Aj,B0,B1⟩:=cb_ w [.slice A n c] 35 [.slice none 0 0] 35;have H:=q_ (h.kept (Y:=fun k=>X k\/k=w\/k=w+1) (Kp.of_below A2) (fun k hk h1 h2=>by rcases h2 with h2 | h2 | h2;exact h1 h2;omega;omega) (Nat.le_refl K));have HL:=q_ (hl.kept (Y:=fun k=>X k\/k=w\/k=w+1) (Kp.of_below A2) (fun k hk h1 h2=>by rcases h2 with h2 | h2 | h2;exact h1 h2;omega;omega) (Nat.le_refl L));have HW:=q_ A2;have Aa:=q_ B0;have Ab:=q_ B1;have hm:m<=4398046510976:=Nat.le_trans hl.le hL;have Ag:=h_ (∀ k,(X k\/k=w\/k=w+1)->k<W) (fun k hk=>by rcases hk with hk | hk | hk;have:=hX k hk;omega;omega;omega);have Ak:=q_ hX;have Al:(w:Nat)<W:=by omega
 have Am:(w:Nat)+1<W:=by omega
 clear h hl hX B0 B1 A2 Aj;go_enter func135,ntmps135;go_upto_region 1 with fail;rw [<-hW];clear hW;go_upto_region 2 with fail;go_loopw [11] (fun i wr=>∃ (k:Nat) (C:OA) (q d:Nat),k<=m/\i=i_ k/\Hid (SlT wr (fun k=>X k\/k=w\/k=w+1) K objT C q d)/\Hid (Bx wr w [.slice C q d])/\Hid (Bx wr (w+1) [.slice none 0 0])/\Hid (Kp (fun k=>k=w) W wr)) (fun i _=>m - (intOf i).toNat)
 case atStart=>exact ⟨0,A,n,c,o_,rfl,H,Aa,Ab,q_ (Kp.refl _ _)⟩
 obtain ⟨k,C,q,d2,hk,rfl,hC,A3,A4,A5⟩:=hrel;have Ap:=A5.o.size;have c0:=A3.o.2.1 0 _ rfl;have f0:=A3.o.2.2;have e0:=A4.o.2.1 0 _ rfl;have g0:=A4.o.2.2;by_cases hlt:k<m
 ·have A6:(k:Int)<(m:Int):=by omega
  obtain ⟨g,o,rfl,hg,x,hx⟩:=(HL.o.up (A5.o.mono (fun k _ h=>.inr (.inl h))) (Nat.le_refl L)).dr_ hlt;obtain ⟨c4,c5,c6,c7⟩:=hx wr (b_);obtain ⟨V,hV,A0,Ai,V0⟩:=af_ wr [i_ x.id,i_ x.field,.bool x.ref,i_ x.n] 87;have v0:=V0.2.1 0 _ rfl;have v1:=V0.2.1 1 _ rfl;have v2:=V0.2.1 2 _ rfl;have v3:=V0.2.1 3 _ rfl;have c8:=(A3.o.below A0).2.1 0 _ rfl;have Ae:=q_ (A3.o.below A0);have Af:=q_ (A4.o.below A0);have A7:=q_ (hC.o.up (Kp.of_below A0) (Nat.le_refl K));have Ad:=q_ (A5.o.trans (.of_below A0));have An:=A0.size;clear hx A0 Ai V0 c0 f0 e0 g0;go_upto_region 4 with fail;rw [<-hV];clear hV c4 c5 c6 c7;go_wp2_with fail;refine (Write_t (fun k=>X k\/k=w\/k=w+1) K C q d2 x.id x.field ⟨x.ref,x.n⟩ V A7.o hK (fun k hk=>by have:=Ag.o k hk;omega)).mono ?_;rintro e Y ⟨⟨C2,q2,d3,b,rfl,Ah⟩,hY⟩;have A1:=q_ (Ae.o.below hY);have A9:=q_ (Af.o.below hY);have Ac:=q_ (A7.o.up (Kp.of_below hY) (Nat.le_refl K));have A8:=q_ (Ad.o.trans (.of_below hY));have y0:=A1.o.2.1 0 _ rfl;have y1:=A1.o.2.2;have Ao:(w:Nat)<Y:=A1.o.1;have hne:¬(w:Nat)+1=w:=by omega
  clear hY c8 v0 v1 v2 v3;go_wp2;all_goals first
   | (go_roundw
      case rel=>exact ⟨k+1,C2,q2,d3,o_,zb_,q_ (Ah.o.up (((Kp.refl _ Y).setCell (.inl (.inr (.inl rfl))) _).alloc _) (Nat.le_refl K)),q_ ((A1.o.set 0 _).alloc _),q_ ((A9.o.far z1_ _).alloc _),q_ ((A8.o.setCell (.inl rfl) _).alloc _)⟩
      case measure=>exact me_)
   | (go_roundw
      case rel=>exact ⟨k+1,C,q,d2,o_,zb_,q_ (Ac.o.up ((Kp.refl _ Y).alloc _) (Nat.le_refl K)),q_ (A1.o.alloc _),q_ (A9.o.alloc _),q_ (A8.o.alloc _)⟩
      case measure=>exact me_)
 have A6:¬(k:Int)<(m:Int):=by omega
 go_wp2;refine retC results135 za_ underlying35 rfl k_ (cs:=[_]) (A4.o.set 0 _).whole rfl ?_;have hb:Below w w (wr.setCell (a_ (w+1)) (.slice C q d2)):=(HW.o.trans (A5.o.below (B:=w) o_ (fun k hk h=>o_))).setCell z3_ _;exact uf_
end Go.Proofs.YtfolidlmgfhkiaaGreat
namespace Go.Proofs.YtfolidlmgfhkiaaGreat.Sq
open Go.RowKit Go.Proofs.Tryz
attribute [local go_sem] Oper.semAt_some
structure Tr (w0:World) where
 t:Tk
 rq:Rq w0 t
def Tr.cells {w0:World} (t:Tr w0):VL:=t.t.cells
theorem tr_of {w0:World}:∀ {l:List Tk},(∀ t ∈ l,Rq w0 t)->∃ l':List (Tr w0),l'.map (·.t)=l
 | [],_=>⟨[],rfl⟩
 | t :: l,h=>by
  obtain ⟨l',e⟩:=tr_of (l:=l) fun x hx=>h x (List.mem_cons_of_mem _ hx)
  exact ⟨⟨t,h t (List.mem_cons_self ..)⟩ :: l',by rw [List.map_cons,e]⟩
theorem sl_tr {w0 w:World} {B n:Nat} {A:OA} {l:List Tk} {l':List (Tr w0)} (e:l'.map (·.t)=l) (h:Sl w B 48 Tk.cells A n l):Sl w B 48 Tr.cells A n l':=by
 subst e;refine ⟨by have:=h.len;rwa [List.length_map] at this,fun hn=>?_⟩;obtain ⟨ab,ao,e,A0,hc⟩:=h.at_ hn;exact ⟨ab,ao,e,A0,fun i x hx j u hu=>hc i x.t (by rw [List.getElem?_map,hx];rfl) j u hu⟩
def TkAt (w:World) (b o:Nat) (t:Tk):Prop:=∀ (j:Nat) (v:Value),t.cells[j]?=some v->w.cell? ⟨b,o+j,none⟩=some v
theorem tk_agg:(prog.info? 65).map (·.size)=some 48:=by kernel_rfl
theorem wpListIn_load_tk {F:Fence} {n:Nat} {ops:Array Oper} {rest:List Oper} {op:Oper} {a:Act} {w:World} {Q:Exit->Act->World->Prop} (hgd:op.guard=none) (x:Operand) (ho:op.op=.load 65 x)
  {b o:Nat} {t:Tk} (hx:a.eval x=.pointer (some (f_ b o))) (hc:TkAt w b o t) (h:wpListIn F n prog ops Q rest (a.put op.dst (.agg t.cells.toArray)) w):wpListIn F n prog ops Q (op :: rest) a w:=by
 refine wpListIn_plain hgd fun K hK=>?_
 have h1:=run_loadAt_mid (P:=prog) w b o _ t.cells _ (fun j v hv=>hc j v hv) underlying65 rfl (by rw [t.size];exact tk_agg);unfold Oper.wpIn;refine ⟨?_,?_⟩
 ·simp [Oper.about,ho]
 rw [Oper.semAt_plain F _ _ (by rw [ho];intro c A0;cases A0)];unfold execOp;simp only [ho,hx,Sem.run_bind,h1,Result.andThen_ok,Sem.run_pure];exact hK _ _ h
theorem wpListIn_store_tk {F:Fence} {n:Nat} {ops:Array Oper} {rest:List Oper} {op:Oper} {a:Act} {w:World} {Q:Exit->Act->World->Prop} (hgd:op.guard=none) (x y:Operand) (ho:op.op=.store 65 x y)
  {c:Array Value} (t:Tk) (hc:c.size=48) (hx:a.eval x=.pointer (some (a_ w))) (hy:a.eval y=.agg t.cells.toArray)
  (h:wpListIn F n prog ops Q rest (a.put op.dst undef) (w.alloc (.cells t.cells.toArray 65))):wpListIn F n prog ops Q (op :: rest) a (w.alloc (.cells c 65)):=by
 refine wpListIn_plain hgd fun K hK=>?_
 have hs:t.cells.toArray.size=48:=by simp [t.size]
 have h1:=run_storeAt_new (P:=prog) w _ c t.cells.toArray (by rw [hs];exact tk_agg) (by rw [hs];exact hc) (by simpa using t.one);unfold Oper.wpIn;refine ⟨?_,?_⟩
 ·simp [Oper.about,ho]
 rw [Oper.semAt_plain F _ _ (by rw [ho];intro c A0;cases A0)];unfold execOp;simp only [ho,hx,hy,Sem.run_bind,h1,Result.andThen_ok,Sem.run_pure];exact hK _ _ h
def tkv {w0:World} (x:Nat × Tr w0):Array Value:=#[i_ x.1,.agg x.2.t.cells.toArray]
theorem back_in {w0:World} (m l n₀ Bn:Nat) (hm:1<=m) (A:OA) (k c:Nat) (ts:List (Tr w0)) (J Jx:List (Nat × Tr w0)->World->Prop) (hk:k<=1000000) (hB:Bn<n₀)
  (hY:∀ pre y W1,J pre W1->pre.length<k->YieldAt Fence.wide (m - 1) prog l (tkv y) W1 fun e W' =>
   (e=.returned (.bool true)/\J (pre ++ [y]) W'/\Below n₀ W1 W')\/(e=.returned (.bool false)/\Jx (pre ++ [y]) W'))
  (W:World) (hc:W.cell? (a_ Bn)=some (.slice A k c)) (hs:Sl W n₀ 48 Tr.cells A k ts) (h0:J [] W) :
  CallsIn Fence.wide m prog 107 #[.func (.yield l) #[] #[],.pointer (some (a_ Bn))] W fun e W'=>(∃ v,e=.returned v) ∧
   ((∃ ys,ys=rvTo ts k/\J ys W')\/(∃ pre,pre <+: rvTo ts k/\Jx pre W')):=by
 have HY:=q_ hY;have HC:=q_ hc;have HL:=q_ hs.len;have Ah:=hc;clear hY;have Ag:=HC.o;refine callsIn_of_wp func107 rfl trivial ?_ rfl;simp only [ntmps107,List.size_toArray,List.length_cons,List.length_nil,Nat.reduceAdd,Nat.reduceSub,Array.replicate_succ,Array.replicate_zero,List.push_toArray,List.append_toArray,List.nil_append,List.cons_append]
 gi_wp2
 gi_loopw [3] (fun i wr=>∃ (pre:List (Nat × Tr w0)) (j:Nat),i=i_ ((j:Int) - 1)/\j<=k/\pre.length+j=k/\Hid (rvTo ts k=pre ++ rvTo ts j)/\J pre wr/\Below n₀ W wr) (fun i _=>(intOf i+1).toNat)
 case atStart=>exact ⟨[],k,by first | rfl | (congr 1;omega),l_,zj_,q_ t_,h0,b_⟩
 obtain ⟨pre,j,rfl,hj,Al,A6,A0,hb⟩:=hrel;have Ai:=(belc hb hB).trans HC.o;cases j with
 | zero =>
  gi_wp2
  go_end0;exact ⟨⟨_,rfl⟩,.inl ⟨pre,by rw [A6.o];simp [rvTo],A0⟩⟩
 | succ j =>
  have A7:=hs.below hb;obtain ⟨ab,ao,rfl,Ak,A5⟩:=A7.at_ o_;obtain ⟨t,ht⟩:∃ t,ts[j]?=some t:=⟨_,ge_ xo_⟩;have Aa:=h_ (TkAt wr ab (ao+j*48) t.t) (fun i v hv=>by rw [Nat.add_assoc];exact A5 j t ht i v hv);have A3:=h_ (rvTo ts k=(pre ++ [(j,t)]) ++ rvTo ts j) (by rw [A6.o];simp [rvTo,ht]);obtain ⟨fn,Af,A1,Ab,hy,hR⟩:=HY.o pre (j,t) wr A0 o_;unfold tkv at hy;have e1:((j+1:Nat):Int) - 1=(j:Int):=by omega
  rw [e1];have Aj:(j:Int)<(k:Int):=by omega
  clear A5 ht A7
  gi_wp2_with (with_reducible refine wpListIn_load_tk rfl (.tmp 15) rfl v_ Aa.o ?_)
  refine hR.mono ?_;rintro e W3 (⟨rfl,A4,Ae⟩ | ⟨rfl,A2⟩)
  ·have Ad:=hb.trans Ae;have A8:=q_ Ad;have A9:=q_ A4;clear hy hR A0 hb A4
   gi_wp2
   go_roundw
   case rel=>exact ⟨pre ++ [(j,t)],j,by first | rfl | go_num,o_,zp_,A3,A9.o,A8.o⟩
   case measure=>simp [intOf]
  clear hy hR A0 hb
  gi_wp2
  refine bodyPost_ret (results_none rfl _ _ _) rfl ?_;exact ⟨⟨_,rfl⟩,.inr ⟨pre ++ [(j,t)],⟨rvTo ts j,A3.o.symm⟩,A2⟩⟩
theorem back_stops {w0:World} (m n₀ Bn:Nat) (hm:1<=m) (A:OA) (k c:Nat) (ts:List (Tr w0)) (hk:k<=1000000) (hB:Bn<n₀) (w:World) (hn:n₀<=w) (hc:w.cell? (a_ Bn)=some (.slice A k c)) (hs:Sl w n₀ 48 Tr.cells A k ts) :
  SeqStopsK Fence.wide m prog 107 #[.pointer (some (a_ Bn))] tkv (Below n₀) (fun ys=>ys=rvTo ts k) (fun pre=>pre <+: rvTo ts k) k w:=fun l J Jx W hW _ _ hY h0 =>
 back_in m l n₀ Bn hm A k c ts J Jx hk hB hY W ((belc hW o_).trans hc) (hs.below (hW.mono hn)) h0
end Go.Proofs.YtfolidlmgfhkiaaGreat.Sq
namespace Go.Proofs.YtfolidlmgfhkiaaGreat
open Go.RowKit Go.Proofs.Tryz
theorem before_t (X:NP) (K:Nat) (A:OA) (n c:Nat) (L:Nat) (vs:VL) (w:World) (h:SlT w X K objT A n c) (hK:K<=1000000000000) (ht:VTs w X L ae_ vs) (hL:L<=1000000000000) (hX:∀ k,X k->k<w) :
  Calls prog 136 #[.agg vs.toArray,.agg #[.slice A n c]] w fun e w'=>RH X K e w'/\Below w w w':=by
 obtain ⟨GA,gn,gc,A4,Ag⟩:=ht.slc (j:=36) (e:=ap_) rfl;obtain ⟨RA,rn,rc,A5,Ap⟩:=ht.slc (j:=37) (e:=ap_) rfl;obtain ⟨W,hW,A2,AF,B0,B1,B2,B3⟩:=blocks4 w vs 65 [.slice A n c] 35 [.slice none 0 0] 35 [.slice A n c] 35;have A7:∀ k,k<w.heap.size->¬X k->¬(X k\/(w.heap.size<=k/\k<w.heap.size+4)):=fun k hk h1 h2=>by rcases h2 with h2 | h2;exact h1 h2;omega
 have H:=q_ (h.kept (Y:=fun k=>X k\/(w<=k/\k<w+4)) (Kp.of_below A2) A7 (Nat.le_refl K));have HG:=q_ (Ag.kept (Y:=fun k=>X k\/(w<=k/\k<w+4)) (Kp.of_below A2) A7 (Nat.le_refl L));have HR:=q_ (Ap.kept (Y:=fun k=>X k\/(w<=k/\k<w+4)) (Kp.of_below A2) A7 (Nat.le_refl L));have HW:=q_ A2;have Ar:=q_ B0;have AK:=q_ B1;have As:=q_ B2;have Au:=q_ B3;have AL:=Ag.le;have Ac:=h_ (∀ k,(X k\/(w<=k/\k<w+4))->k<W) (fun k hk=>by rcases hk with hk | hk;have:=hX k hk;omega;omega);have AH:=B0.2.1 36 _ A4;have Aq:(w:Nat)+4=W:=by omega
 have Am:=q_ Aq;have HF:=q_ A5;clear h ht hX B0 B2 B3 A2 AF Ag Ap A7 Aq A4 A5;have c1:=B1.2.1 0 _ rfl;clear B1;go_enter func136,ntmps136;go_upto_region 2 with fail;rw [<-hW];clear hW c1;go_upto_region 3 with fail;clear AH;go_loopw [12] (fun i wr=>∃ (k:Nat) (C:OA) (q d:Nat),k<=gn/\i=i_ k/\Hid (SlT wr (fun k=>X k\/(w<=k/\k<w+4)) K objT C q d)/\Hid (Bx wr w vs)/\Hid (Bx wr (w+2) [.slice none 0 0])/\Hid (Bx wr (w+3) [.slice C q d])/\Hid (Kp (fun k=>k=w+3) W wr)) (fun i _=>gn - (intOf i).toNat)
 case atStart=>exact ⟨0,A,n,c,o_,rfl,H,Ar,As,Au,q_ (Kp.refl _ _)⟩
 obtain ⟨k,C,q,d,hk,rfl,hC,Af,An,Ao,A9⟩:=hrel;have AO:=A9.o.size;have A8:Kp (fun k=>X k\/(w<=k/\k<w+4)) W wr:=A9.o.mono (fun k _ h=>.inr ⟨o_,o_⟩);have Aa:=q_ (HR.o.up A8 (Nat.le_refl L));by_cases hlt:k<gn
 ·have Ah:(k:Int)<(gn:Int):=by omega
  obtain ⟨g,o,rfl,hg,x,hx⟩:=(HG.o.up A8 (Nat.le_refl L)).dr_ hlt;obtain ⟨c4,c5,c6,c7⟩:=hx wr (b_);obtain ⟨V,hV,A0,AE,V0⟩:=af_ wr [i_ x.id,i_ x.field,.bool x.ref,i_ x.n] 87;have v0:=V0.2.1 0 _ rfl;have v1:=V0.2.1 1 _ rfl;have AJ:=(Af.o.below A0).2.1 37 _ HF.o;have A6:=q_ V0;have AD:=q_ (Ao.o.below A0);have AC:=q_ (Af.o.below A0);have AB:=q_ (An.o.below A0);have Av:=q_ (hC.o.up (Kp.of_below A0) (l_));have Ay:=q_ (Aa.o.up (Kp.of_below A0) (l_));have Ax:=q_ (A9.o.trans (.of_below A0));have AM:=A0.size;clear hx A8 A0 AE V0 Aa;go_upto_region 5 with fail;rw [<-hV];clear hV c4 c5 c6 c7;go_wp2_with fail;refine (at_t _ L RA rn rc x.id x.field V Ay.o o_).mono ?_;rintro e Y ⟨⟨p,rfl,hp⟩,hY⟩;clear hp v0 v1 AJ;have Ad:=q_ (AD.o.below hY);have Al:=q_ (AC.o.below hY);have Ak:=q_ (AB.o.below hY);have Ai:=q_ (Av.o.up (Kp.of_below hY) (l_));have Aj:=q_ (Ax.o.trans (.of_below hY));have AN:=hY.size;have y0:=(A6.o.below hY).2.1 0 _ rfl;have y1:=(A6.o.below hY).2.1 1 _ rfl;have y2:=(A6.o.below hY).2.1 2 _ rfl;have y3:=(A6.o.below hY).2.1 3 _ rfl;have x0:=Ad.o.2.1 0 _ rfl;clear hY;by_cases hp:p<0
  ·go_wp2_with fail;refine (Written_t (fun k=>X k\/(w<=k/\k<w+4)) K C q d 1 _ 1 1 _ (Ai.o.up ((Kp.refl _ Y).alloc _) (l_)) o_ (SlT.lit1 (e:=ap_) (dz_ _ _ _ _) _ (fun h=>by have:=Ac.o _ h;omega) (Nat.le_refl 1)) o_ (fun k hk=>by have:=Ac.o k hk;simp;omega)).mono ?_;rintro e S ⟨⟨C2,q2,d3,rfl,Ae⟩,hS⟩;have A3:=((Below.refl Y Y).alloc (l_) _).trans (hS.mono t_);have Ab:=q_ (Ad.o.below A3);have Az:=q_ (Al.o.below A3);have A1:=q_ (Ak.o.below A3);have Aw:=q_ (Aj.o.trans (.of_below A3));have s0:=Ab.o.2.1 0 _ rfl;have s1:=Ab.o.2.2;clear hS A3 y0 y1 y2 y3 x0;go_wp2;go_roundw
   case rel=>exact ⟨k+1,C2,q2,d3,o_,zb_,q_ (Ae.o.up ((Kp.refl _ S).setCell (p:=(a_ (w+3))) (.inl (.inr ⟨by show (w:Nat)<=w+3;omega,by show (w:Nat)+3<w+4;omega⟩)) _) o_),q_ (Az.o.far (by show (w:Nat)+3≠w;omega) _),q_ (A1.o.far (by show (w:Nat)+3≠w+2;omega) _),q_ (Ab.o.set 0 _),q_ (Aw.o.setCell (p:=(a_ (w+3))) (.inl rfl) _)⟩
   case measure=>exact me_
  clear y0 y1 y2 y3 x0;go_wp2;go_roundw
  case rel=>exact ⟨k+1,C,q,d,o_,zb_,Ai,Al,Ak,Ad,Aj⟩
  case measure=>exact me_
 have Ah:¬(k:Int)<(gn:Int):=by omega
 have x0:=Ao.o.2.1 0 _ rfl;have AI:=Af.o.2.1 37 _ HF.o;go_wp2_with fail;refine (Written_t (fun k=>X k\/(w<=k/\k<w+4)) K C q d L RA rn rc wr hC.o o_ Aa.o o_ (fun k hk=>by have:=Ac.o k hk;omega)).mono ?_;rintro e S ⟨⟨C2,q2,d3,rfl,Ae⟩,hS⟩;have A1:=q_ (An.o.below hS);have s0:=A1.o.2.1 0 _ rfl;have s1:=A1.o.2.2;have AA:=q_ hS;clear hS x0 AI A8;go_wp2;refine retC results136 za_ underlying35 rfl k_ (cs:=[_]) (A1.o.set 0 _).whole rfl ?_;have AG:Below w w (S.setCell (a_ (w+2)) (.slice C2 q2 d3)):=((HW.o.trans (A9.o.below (B:=w) (by have:=Am.o;omega) (fun k hk h=>o_))).trans (AA.o.mono (by have:=Am.o;omega))).setCell xw_ _;exact ⟨⟨_,_,_,rfl,q_ ((Ae.o.up ((Kp.refl _ S).setCell (p:=(a_ (w+2))) (.inl (.inr ⟨xw_,by show (w:Nat)+2<w+4;omega⟩)) _) (Nat.le_refl K)).kept (Kp.refl _ _) (fun k _ h h2=>h (.inl h2)) (l_))⟩,AG⟩
end Go.Proofs.YtfolidlmgfhkiaaGreat
