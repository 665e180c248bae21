/- Lemmas: each says what a function of the program leaves, under the conditions that it states. -/
import Derived.Test.YtfolidlmgfhkiaaGreatZ06
set_option linter.unusedVariables false
set_option linter.unusedSimpArgs false
set_option maxRecDepth 100000
set_option maxHeartbeats 4000000
namespace Go.Proofs.YtfolidlmgfhkiaaGreat
open Go.RowKit
structure LV where
 b:Nat
 K:Nat->Nat
 ts:List CT
 ow:Nat->Option TypeId
def noOw:Nat->Option TypeId:=fun _=>none
structure Up (w:World) (Y:NP) (w':World) (Y':NP):Prop where
 kp:Kp Y w w'
 no:∀ k,k<w.heap.size->¬Y k->¬Y' k
section
variable {w w' w2:World} {Y Y' Y2:NP} {K K' n c:Nat} {t:CT} {v:Value} {A:OA} {e:List CT}
theorem Up.refl (w:World) (Y:NP):Up w Y w Y:=⟨Kp.refl _ _,fun _ _ h=>h⟩
theorem Up.trans (h:Up w Y w' Y') (h2:Up w' Y' w2 Y2):Up w Y w2 Y2 :=
 ⟨⟨h2.kp.os.trans h.kp.os,h2.kp.tape.trans h.kp.tape,h2.kp.output.trans h.kp.output,Nat.le_trans h.kp.size h2.kp.size,fun k hk hx=>(h2.kp.block k (lt_ hk h.kp.size) (h.no k hk hx)).trans (h.kp.block k hk hx)⟩,fun k hk hx=>h2.no k (lt_ hk h.kp.size) (h.no k hk hx)⟩
theorem Up.of_below (hb:Below w.heap.size w w'):Up w Y w' Y:=⟨.of_below hb,fun _ _ h=>h⟩
theorem Up.drew (h:Up w Y w' Y'):Up w Y w'.drew Y':=⟨h.kp.drew,h.no⟩
theorem Up.drewN (h:Up w Y w' Y') (m:Nat):Up w Y (w'.drewN m) Y':=⟨h.kp.drewN m,h.no⟩
theorem VT.go (h:VT w Y K t v) (u:Up w Y w' Y') (hK:K<=K'):VT w' Y' K' t v:=h.kept u.kp u.no hK
theorem VTs.go {ts:List CT} {vs:VL} (h:VTs w Y K ts vs) (u:Up w Y w' Y') (hK:K<=K'):VTs w' Y' K' ts vs:=h.kept u.kp u.no hK
theorem SlT.go (h:SlT w Y K e A n c) (u:Up w Y w' Y') (hK:K<=K'):SlT w' Y' K' e A n c:=h.kept u.kp u.no hK
theorem OwT.stay {base:Nat} {et:TypeId} (h:OwT w base et e Y K A n c) {row:Option Nat} (hg:w.grownBy w' row) (hr:∀ k,row=some k->Y k/\(Value.slice A n c).ownBlock≠some k):OwT w' base et e Y K A n c:=by
 obtain ⟨xs,ho,hx⟩:=h;refine ⟨xs,ho.kept hg (by cases row with | none=>cases (Value.slice A n c).ownBlock <;> simp | some k=>exact .inr (hr k rfl).2),fun k j t hk hj=>?_⟩;obtain ⟨u,hu,hv⟩:=hx k j t hk hj;exact ⟨u,hu,hv.kept ((Kp.refl _ w).grown hg (fun k hk=>.inl (.inl (hr k hk).1))) (fun _ _ h=>h) (l_)⟩
theorem OwT.sub {base:Nat} {et:TypeId} (h:OwT w base et e Y K A n c) (hY:∀ k,k<w.heap.size->Y' k->Y k∨(Value.slice A n c).ownBlock=some k) (hK:K<=K'):OwT w base et e Y' K' A n c:=by
 obtain ⟨xs,ho,hx⟩:=h;refine ⟨xs,ho,fun k j t hk hj=>?_⟩;obtain ⟨u,hu,hv⟩:=hx k j t hk hj;refine ⟨u,hu,hv.kept (Kp.refl _ w) (fun k hk hn hy=>hn ?_) hK⟩;rcases hy with hy | hy
 ·exact hY k hk hy
 exact .inr hy
theorem OwT.base_up {base base':Nat} {et:TypeId} (h:OwT w base et e Y K A n c) (hb:∀ g,(Value.slice A n c).ownBlock=some g->base'<=g):OwT w base' et e Y K A n c:=by
 obtain ⟨xs,ho,hx⟩:=h;refine ⟨xs,⟨ho.1,?_⟩,hx⟩;rcases ho.2 with h' | ⟨g,cap,cur,hv,hg,hr⟩
 ·exact .inl h'
 injection hv with h1 _ h3;subst h1 h3;exact .inr ⟨g,_,cur,rfl,hb g rfl,hr⟩
theorem nodup_eq {α:Type} {f:α->Nat}:∀ {l:List α},(l.map f).Nodup->∀ {p q:α},p ∈ l->q ∈ l->f p=f q->p=q
 | [],_,_,_,hp,_,_=>by cases hp
 | x :: r,hn,p,q,hp,hq,he=>by
  rw [List.map_cons,List.nodup_cons] at hn;rcases List.mem_cons.1 hp with h1 | hp
  ·rcases List.mem_cons.1 hq with h2 | hq
   ·rw [h1,h2]
   exact absurd (List.mem_map.2 ⟨q,hq,by rw [←he,h1]⟩) hn.1
  rcases List.mem_cons.1 hq with h2 | hq
  ·exact absurd (List.mem_map.2 ⟨p,hp,by rw [he,h2]⟩) hn.1
  exact nodup_eq hn.2 hp hq he
end
structure Fr (X Z:NP) (w0:World) (L:List LV) (Y:NP) (C:Nat->VL) (w:World):Prop where
 kp:Kp Z w0 w
 sub:∀ k,X k->Y k
 lt:∀ k,Y k->k<w
 blk:∀ p ∈ L,Y p.b/\(w0<=p.b∨Z p.b)/\Bx w p.b (C p.b)/\(C p.b).length=p.ts.length
 val:∀ p ∈ L,∀ j t,p.ts[j]?=some t->p.ow j=none->∃ v,(C p.b)[j]?=some v/\VT w Y (p.K j) t v
 row:∀ p ∈ L,∀ j t et,p.ts[j]?=some t->p.ow j=some et->∃ e A n c,t=.sl e/\(C p.b)[j]?=some (.slice A n c)/\n<=p.K j/\OwT w 0 et e Y (p.K j) A n c/\∀ g,(Value.slice A n c).ownBlock=some g->Y g/\(w0<=g∨Z g)/\∀ q ∈ L,q.b≠g
 far:∀ p ∈ L,∀ q ∈ L,∀ i j u v g,(p.b≠q.b∨i≠j)->p.ow i≠none->q.ow j≠none->(C p.b)[i]?=some u->(C q.b)[j]?=some v->u.ownBlock=some g->v.ownBlock≠some g
 nd:(L.map LV.b).Nodup
def upd (C:Nat->VL) (b:Nat) (vs:VL):Nat->VL:=fun k=>if k=b then vs else C k
theorem upd_same (C:Nat->VL) (b:Nat) (vs:VL):upd C b vs b=vs:=if_pos rfl
theorem ad_ (C:Nat->VL) {b k:Nat} (vs:VL) (h:k≠b):upd C b vs k=C k:=if_neg h
section
variable {X Z Y:NP} {w0 w w':World} {L:List LV} {C:Nat->VL} {b i j:Nat} {K:Nat->Nat} {ts:List CT} {ow:Nat->Option TypeId} {t:CT} {v:Value}
theorem Fr.nil (hX:∀ k,X k->k<w) (Z:NP) (C:Nat->VL):Fr X Z w [] X C w :=
 ⟨Kp.refl _ _,fun _ h=>h,hX,(fun _ h=>by cases h),(fun _ h=>by cases h),(fun _ h=>by cases h),(fun _ h=>by cases h),List.nodup_nil⟩
theorem Fr.below (h:Fr X (fun _=>False) w0 L Y C w):Below w0 w0 w:=h.kp.below (l_) (fun _ _ h=>h)
theorem Fr.call (h:Fr X Z w0 L Y C w) (hb:Below w w w'):Fr X Z w0 L Y C w' :=
 ⟨h.kp.bc_ hb,h.sub,fun k hk=>lt_ (h.lt k hk) hb.size,
   fun p hp=>by obtain ⟨h1,h2,h3,h4⟩:=h.blk p hp;exact ⟨h1,h2,h3.below hb,h4⟩,
   fun p hp j t hj ho=>by obtain ⟨v,h1,h2⟩:=h.val p hp j t hj ho;exact ⟨v,h1,h2.up (.of_below hb) (l_)⟩,
   fun p hp j t et hj ho=>by
  obtain ⟨e,A,n,c,h1,h2,h3,h4,h5⟩:=h.row p hp j t et hj ho
  exact ⟨e,A,n,c,h1,h2,h3,h4.stay (ce_ hb none) (fun _ h=>by cases h),h5⟩,
   h.far,h.nd⟩
theorem Fr.drew (h:Fr X Z w0 L Y C w):Fr X Z w0 L Y C w.drew:=h.call (Below.drew (b_))
theorem Fr.mem (hp:L[i]?=some ⟨b,K,ts,ow⟩):(⟨b,K,ts,ow⟩:LV) ∈ L:=List.mem_of_getElem? hp
/- What the variables hold. -/
theorem Fr.box (h:Fr X Z w0 L Y C w) (hp:L[i]?=some ⟨b,K,ts,ow⟩):Bx w b (C b):=(h.blk _ (Fr.mem hp)).2.2.1
theorem Fr.len (h:Fr X Z w0 L Y C w) (hp:L[i]?=some ⟨b,K,ts,ow⟩):(C b).length=ts.length:=(h.blk _ (Fr.mem hp)).2.2.2
theorem Fr.fz (h:Fr X Z w0 L Y C w) (hp:L[i]?=some ⟨b,K,ts,ow⟩):∀ j,w.frozen? (f_ b j)=false:=(h.box hp).2.2
theorem Fr.cell (h:Fr X Z w0 L Y C w) (hp:L[i]?=some ⟨b,K,ts,ow⟩) (hv:(C b)[j]?=some v):w.cell? (f_ b j)=some v:=(h.box hp).2.1 j v hv
theorem Fr.get (h:Fr X Z w0 L Y C w) (hp:L[i]?=some ⟨b,K,ts,ow⟩) (hj:ts[j]?=some t) (ho:ow j=none):∃ v,(C b)[j]?=some v/\w.cell? (f_ b j)=some v/\VT w Y (K j) t v:=by
 obtain ⟨v,h1,h2⟩:=h.val _ (Fr.mem hp) j t hj ho;exact ⟨v,h1,h.cell hp h1,h2⟩
theorem Fr.num (h:Fr X Z w0 L Y C w) (hp:L[i]?=some ⟨b,K,ts,ow⟩) (hj:ts[j]?=some .num) (ho:ow j=none):∃ n,w.cell? (f_ b j)=some (i_ n)/\(C b)[j]?=some (i_ n):=by
 obtain ⟨v,h0,h1,h2⟩:=h.get hp hj ho;obtain ⟨n,rfl⟩:=h2.int;exact ⟨n,h1,h0⟩
theorem Fr.tru (h:Fr X Z w0 L Y C w) (hp:L[i]?=some ⟨b,K,ts,ow⟩) (hj:ts[j]?=some .tru) (ho:ow j=none):∃ n,w.cell? (f_ b j)=some (.bool n)/\(C b)[j]?=some (.bool n):=by
 obtain ⟨v,h0,h1,h2⟩:=h.get hp hj ho;obtain ⟨n,rfl⟩:=h2.bool;exact ⟨n,h1,h0⟩
theorem Fr.slc {e:List CT} (h:Fr X Z w0 L Y C w) (hp:L[i]?=some ⟨b,K,ts,ow⟩) (hj:ts[j]?=some (.sl e)) (ho:ow j=none):∃ A n c,w.cell? (f_ b j)=some (.slice A n c)/\SlT w Y (K j) e A n c/\(C b)[j]?=some (.slice A n c):=by
 obtain ⟨v,h0,h1,h2⟩:=h.get hp hj ho;obtain ⟨A,n,c,rfl,hs⟩:=h2.slice;exact ⟨A,n,c,h1,hs,h0⟩
theorem Fr.own {e:List CT} {et:TypeId} (h:Fr X Z w0 L Y C w) (hp:L[i]?=some ⟨b,K,ts,ow⟩) (hj:ts[j]?=some (.sl e)) (ho:ow j=some et):∃ A n c,w.cell? (f_ b j)=some (.slice A n c)/\(C b)[j]?=some (.slice A n c)/\n<=K j/\OwT w 0 et e Y (K j) A n c/\(∀ g,(Value.slice A n c).ownBlock=some g->Y g):=by
 obtain ⟨e',A,n,c,h1,h2,h3,h4,h5⟩:=h.row _ (Fr.mem hp) j _ et hj ho;injection h1 with h1;subst h1;exact ⟨A,n,c,h.cell hp h2,h2,h3,h4,fun g hg=>(h5 g hg).1⟩
theorem Fr.whole {N:Nat} (h:Fr X Z w0 L Y C w) (hp:L[i]?=some ⟨b,fun _=>N,ts,noOw⟩):VTs w Y N ts (C b) :=
 ⟨h.len hp,fun j t hj=>h.val _ (Fr.mem hp) j t hj rfl⟩
theorem Fr.add (h:Fr X Z w0 L Y C w) (K:Nat->Nat) (ts:List CT) (ow:Nat->Option TypeId) (vs:VL) (ty:TypeId) (hl:vs.length=ts.length)
  (hv:∀ j t,ts[j]?=some t->∃ v,vs[j]?=some v/\((ow j=none/\VT w Y (K j) t v)∨∃ et e,ow j=some et/\t=.sl e/\v=.slice none 0 0)) :
  ∃ Y',Fr X Z w0 (⟨w.heap.size,K,ts,ow⟩ :: L) Y' (upd C w.heap.size vs) (w.alloc (.cells vs.toArray ty))/\Up w Y (w.alloc (.cells vs.toArray ty)) Y':=by
 have hB:Below w.heap.size w (w.alloc (.cells vs.toArray ty)):=(b_).alloc (l_) _;have Aa:∀ k,k<w.heap.size->¬Y k->¬(Y k∨k=w.heap.size):=fun k hk h1 h2=>by rcases h2 with h2 | h2;exact h1 h2;omega
 have A5:Up w Y (w.alloc (.cells vs.toArray ty)) (fun k=>Y k∨k=w.heap.size):=⟨.of_below hB,Aa⟩;have hne:∀ p ∈ L,p.b≠w.heap.size:=fun p hp=>Nat.ne_of_lt (h.lt _ (h.blk p hp).1)
 have h':=h.call hB;refine ⟨fun k=>Y k∨k=w,⟨h'.kp,fun k hk=>.inl (h.sub k hk),fun k hk=>?_,fun p hp=>?_,fun p hp j t hj ho=>?_,fun p hp j t et hj ho=>?_,fun p hp q hq i j u v g A4 A6 A3 hi hj hu=>?_,?_⟩,A5⟩
 ·rcases hk with hk | hk
  ·exact h'.lt k hk
  simp [hk]
 ·rcases List.mem_cons.1 hp with rfl | hp
  ·exact ⟨.inr rfl,.inl h.kp.size,by rw [upd_same];exact Bx.new w vs ty,by rw [upd_same];exact hl⟩
  obtain ⟨h1,h2,h3,h4⟩:=h'.blk p hp;rw [ad_ _ _ (hne p hp)];exact ⟨.inl h1,h2,h3,h4⟩
 ·rcases List.mem_cons.1 hp with rfl | hp
  ·rw [upd_same];obtain ⟨v,h1,h2⟩:=hv j t hj;rcases h2 with ⟨_,h2⟩ | ⟨et,e,h2,_⟩
   ·exact ⟨v,h1,h2.go A5 (l_)⟩
   rw [show ow j=none from ho] at h2;cases h2
  obtain ⟨v,h1,h2⟩:=h.val p hp j t hj ho;rw [ad_ _ _ (hne p hp)];exact ⟨v,h1,h2.go A5 (l_)⟩
 ·rcases List.mem_cons.1 hp with rfl | hp
  ·rw [upd_same];obtain ⟨v,h1,h2⟩:=hv j t hj;rcases h2 with ⟨h2,_⟩ | ⟨et',e,h2,rfl,rfl⟩
   ·rw [show ow j=some et from ho] at h2;cases h2
   exact ⟨e,none,0,0,rfl,h1,Nat.zero_le _,OwT.nil _ _ _ _ _ _,fun g hg=>by cases hg⟩
  obtain ⟨e,A,n,c,h1,h2,h3,h4,h5⟩:=h'.row p hp j t et hj ho;rw [ad_ _ _ (hne p hp)];refine ⟨e,A,n,c,h1,h2,h3,?_,fun g hg=>⟨.inl (h5 g hg).1,(h5 g hg).2.1,fun q hq=>?_⟩⟩
  ·obtain ⟨e',A',n',c',A1,A2,Ab,A7,Ac⟩:=h.row p hp j t et hj ho;rw [h2] at A2;injection A2 with A2;injection A2 with ha hb hc;subst ha hb hc;rw [h1] at A1;injection A1 with A1;subst A1;exact (A7.sub (Y':=fun k=>Y k∨k=w.heap.size) (fun k hk hy=>by rcases hy with hy | hy;exact .inl hy;omega) (l_)).stay (ce_ hB none) (fun _ h=>by cases h)
  rcases List.mem_cons.1 hq with rfl | hq
  ·intro he;have A8:=h5 g hg;have:g<w:=h.lt g A8.1;have he:w=g:=he;omega
  exact (h5 g hg).2.2 q hq
 ·have A0:∀ (j:Nat) (v:Value),ow j≠none->vs[j]?=some v->v.ownBlock=none:=fun j v A3 hj=>by
   have A9:j<ts.length:=by rw [←hl];exact (e_ hj).1
   obtain ⟨v',h1,h2⟩:=hv j _ (ge_ A9);rw [hj] at h1;injection h1 with h1;subst h1;rcases h2 with ⟨h2,_⟩ | ⟨_,_,_,_,rfl⟩
   ·exact absurd h2 A3
   rfl
  rcases List.mem_cons.1 hp with rfl | hp
  ·rw [upd_same] at hi;rw [A0 i u A6 hi] at hu;cases hu
  rw [ad_ _ _ (hne p hp)] at hi;rcases List.mem_cons.1 hq with rfl | hq
  ·rw [upd_same] at hj;rw [A0 j v A3 hj];simp
  rw [ad_ _ _ (hne q hq)] at hj;exact h.far p hp q hq i j u v g A4 A6 A3 hi hj hu
 rw [List.map_cons,List.nodup_cons];refine ⟨fun hm=>?_,h.nd⟩;obtain ⟨p,hp,he⟩:=List.mem_map.1 hm;exact hne p hp he
theorem Fr.tail {p:LV} (h:Fr X Z w0 (p :: L) Y C w):Fr X Z w0 L Y C w :=
 ⟨h.kp,h.sub,h.lt,fun q hq=>h.blk q (.tail _ hq),fun q hq=>h.val q (.tail _ hq),
   fun q hq j t et hj ho=>by
  obtain ⟨e,A,n,c,h1,h2,h3,h4,h5⟩:=h.row q (.tail _ hq) j t et hj ho
  exact ⟨e,A,n,c,h1,h2,h3,h4,fun g hg=>⟨(h5 g hg).1,(h5 g hg).2.1,fun r hr=>(h5 g hg).2.2 r (.tail _ hr)⟩⟩,
   fun q hq r hr=>h.far q (.tail _ hq) r (.tail _ hr),by have:=h.nd;rw [List.map_cons,List.nodup_cons] at this;exact this.2⟩
theorem Fr.raise {L':List LV} (h:Fr X Z w0 L Y C w) (hL:L'.length=L.length) (hr:∀ (i:Nat) (p q:LV),L[i]?=some p->L'[i]?=some q->q.b=p.b/\q.ts=p.ts/\q.ow=p.ow/\∀ j,p.K j<=q.K j):Fr X Z w0 L' Y C w:=by
 have back:∀ q ∈ L',∃ p ∈ L,q.b=p.b/\q.ts=p.ts/\q.ow=p.ow/\∀ j,p.K j<=q.K j:=fun q hq=>by
  obtain ⟨i,hi⟩:=List.getElem?_of_mem hq;have A0:i<L.length:=by rw [←hL];exact (e_ hi).1
  exact ⟨L[i],List.getElem_mem A0,hr i _ q (ge_ A0) hi⟩
 refine ⟨h.kp,h.sub,h.lt,fun q hq=>?_,fun q hq j t hj ho=>?_,fun q hq j t et hj ho=>?_,fun p hp q hq i j u v g hne A1 A2 hi hj hu=>?_,?_⟩
 ·obtain ⟨p,hp,e1,e2,e3,e4⟩:=back q hq;rw [e1,e2];exact h.blk p hp
 ·obtain ⟨p,hp,e1,e2,e3,e4⟩:=back q hq;rw [e2] at hj;rw [e3] at ho;obtain ⟨v,h1,h2⟩:=h.val p hp j t hj ho;rw [e1];exact ⟨v,h1,h2.kept (Kp.refl _ _) (fun _ _ h=>h) (e4 j)⟩
 ·obtain ⟨p,hp,e1,e2,e3,e4⟩:=back q hq;rw [e2] at hj;rw [e3] at ho;obtain ⟨e,A,n,c,h1,h2,h3,h4,h5⟩:=h.row p hp j t et hj ho;rw [e1];refine ⟨e,A,n,c,h1,h2,Nat.le_trans h3 (e4 j),h4.sub (fun _ _ h=>.inl h) (e4 j),fun g hg=>⟨(h5 g hg).1,(h5 g hg).2.1,fun r A5=>?_⟩⟩;obtain ⟨s,hs,e5,_⟩:=back r A5;rw [e5];exact (h5 g hg).2.2 s hs
 ·obtain ⟨p',A3,e1,e2,e3,e4⟩:=back p hp;obtain ⟨q',A4,f1,f2,f3,f4⟩:=back q hq;rw [e1] at hi;rw [f1] at hj;rw [e1,f1] at hne;rw [e3] at A1;rw [f3] at A2;exact h.far p' A3 q' A4 i j u v g hne A1 A2 hi hj hu
 have:L'.map LV.b=L.map LV.b:=by
  apply List.ext_getElem?;intro i;rw [List.getElem?_map,List.getElem?_map];by_cases hi:i<L.length
  ·rw [ge_ hi,ge_ (by rw [hL];exact hi)];simp only [Option.map_some];rw [(hr i _ _ (ge_ hi) (ge_ (by rw [hL];exact hi))).1]
  rw [List.getElem?_eq_none o_,List.getElem?_eq_none o_]
 rw [this];exact h.nd
theorem Fr.write {vs:VL} (h:Fr X Z w0 L Y C w) (hp:L[i]?=some ⟨b,K,ts,ow⟩) (hk:Kp (fun k=>k=b) w w') (hsz:w'.heap.size=w.heap.size) (hB:Bx w' b vs) (hl:vs.length=ts.length)
  (hv:∀ j t,ts[j]?=some t->(ow j=none->∃ v,vs[j]?=some v/\VT w' Y (K j) t v)/\(ow j≠none->vs[j]?=(C b)[j]?)):Fr X Z w0 L Y (upd C b vs) w'/\Up w Y w' Y:=by
 have A3:=Fr.mem hp;obtain ⟨A4,A2,Ab,Ac⟩:=h.blk _ A3;have A9:Kp Y w w':=hk.mono (fun k _ h=>by subst h;exact A4);have A7:Up w Y w' Y:=⟨A9,fun _ _ h=>h⟩;have hg:w.grownBy w' (some b):=⟨hk.os,hk.tape,hk.output,hk.size,fun k A1 hne=>hk.block k A1 (fun e=>hne (by rw [e]))⟩;have same:∀ p ∈ L,p.b=b->p=⟨b,K,ts,ow⟩:=fun p hp he=>nodup_eq h.nd hp A3 he
 have A0:∀ p ∈ L,∀ j v,p.ow j≠none->((upd C b vs) p.b)[j]?=some v->(C p.b)[j]?=some v:=fun p hp j v ho hj=>by
  by_cases he:p.b=b
  ·have:=same p hp he;subst this;rw [show (upd C b vs) b=vs from upd_same _ _ _] at hj;have Aa:j<ts.length:=by rw [←hl];exact (e_ hj).1
   rw [←(hv j _ (ge_ Aa)).2 ho];exact hj
  rwa [ad_ _ _ he] at hj
 refine ⟨⟨?_,h.sub,fun k A1=>by rw [hsz];exact h.lt k A1,fun p hp=>?_,fun p hp j t hj ho=>?_,fun p hp j t et hj ho=>?_,fun p hp q hq i j u v g hne A5 A6 hi hj hu=>h.far p hp q hq i j u v g hne A5 A6 (A0 p hp i u A5 hi) (A0 q hq j v A6 hj) hu,h.nd⟩,A7⟩
 ·refine ⟨hk.os.trans h.kp.os,hk.tape.trans h.kp.tape,hk.output.trans h.kp.output,Nat.le_trans h.kp.size hk.size,fun k A1 hz=>(hk.block k (lt_ A1 h.kp.size) (fun e=>?_)).trans (h.kp.block k A1 hz)⟩;subst e;rcases A2 with A2 | A2
  ·have A2:w0.heap.size<=k:=A2;omega
  exact hz A2
 ·obtain ⟨h1,h2,h3,h4⟩:=h.blk p hp;by_cases he:p.b=b
  ·have:=same p hp he;subst this;exact ⟨h1,h2,by rw [show (upd C b vs) b=vs from upd_same _ _ _];exact hB,by rw [show (upd C b vs) b=vs from upd_same _ _ _];exact hl⟩
  rw [ad_ _ _ he];exact ⟨h1,h2,h3.kp hk he,h4⟩
 ·by_cases he:p.b=b
  ·have:=same p hp he;subst this;rw [show (upd C b vs) b=vs from upd_same _ _ _];exact (hv j t hj).1 ho
  obtain ⟨v,h1,h2⟩:=h.val p hp j t hj ho;rw [ad_ _ _ he];exact ⟨v,h1,h2.go A7 (l_)⟩
 obtain ⟨e,A,n,c,h1,h2,h3,h4,h5⟩:=h.row p hp j t et hj ho;refine ⟨e,A,n,c,h1,?_,h3,h4.stay hg (fun k A1=>by injection A1 with A1;subst A1;exact ⟨A4,fun A8=>(h5 _ A8).2.2 _ A3 rfl⟩),h5⟩;by_cases he:p.b=b
 ·have:=same p hp he;subst this;rw [show (upd C b vs) b=vs from upd_same _ _ _,(hv j t hj).2 (fun e=>by cases (show some et=none from ho.symm.trans e))];exact h2
 rw [ad_ _ _ he];exact h2
theorem Fr.set (h:Fr X Z w0 L Y C w) (hp:L[i]?=some ⟨b,K,ts,ow⟩) (hj:ts[j]?=some t) (ho:ow j=none) (hv:VT w Y (K j) t v):Fr X Z w0 L Y (upd C b ((C b).set j v)) (w.setCell (f_ b j) v)/\Up w Y (w.setCell (f_ b j) v) Y:=by
 have hk:Kp (fun k=>k=b) w (w.setCell (f_ b j) v):=(Kp.refl (fun k=>k=b) w).setCell (p:=(f_ b j)) (.inl rfl) v;have A3:=(h.blk _ (Fr.mem hp)).1;have A2:Kp Y w (w.setCell (f_ b j) v):=(Kp.refl _ w).setCell (.inl A3) v;refine h.write hp hk (by simp [World.setCell]) ((h.box hp).set j v) (by rw [List.length_set];exact h.len hp) (fun q s hq=>⟨fun A1=>?_,fun A1=>?_⟩)
 ·obtain ⟨u,hu,A4⟩:=h.val _ (Fr.mem hp) q s hq A1;by_cases A0:j=q
  ·subst A0;rw [show ts[j]?=some s from hq] at hj;injection hj with hj;subst hj;exact ⟨v,by rw [gs_,if_pos rfl,if_pos (e_ hu).1],hv.up A2 (l_)⟩
  exact ⟨u,by rw [gs_,if_neg A0];exact hu,A4.up A2 (l_)⟩
 have A0:j≠q:=fun e=>by subst e;exact A1 ho
 rw [gs_,if_neg A0]
theorem Fr.sets {N:Nat} {vs:VL} (h:Fr X Z w0 L Y C w) (hp:L[i]?=some ⟨b,fun _=>N,ts,noOw⟩) (hv:VTs w Y N ts vs):Fr X Z w0 L Y (upd C b vs) (w.setCells b 0 vs)/\Up w Y (w.setCells b 0 vs) Y:=by
 have hk:Kp (fun k=>k=b) w (w.setCells b 0 vs):=ai_ b vs 0 (Kp.refl _ w) (.inl rfl);have A0:=(h.blk _ (Fr.mem hp)).1;have A1:Kp Y w (w.setCells b 0 vs):=ai_ b vs 0 (Kp.refl _ w) (.inl A0);refine h.write hp hk (setCells_size _ _ _ _) ((h.box hp).all vs (by rw [hv.1,h.len hp])) hv.1 (fun q s hq=>⟨fun _=>?_,fun A2=>absurd rfl A2⟩);obtain ⟨u,hu,A3⟩:=hv.2 q s hq;exact ⟨u,hu,A3.up A1 (l_)⟩
theorem Fr.part {o N:Nat} {us:List CT} {vs:VL} (h:Fr X Z w0 L Y C w) (hp:L[i]?=some ⟨b,K,ts,ow⟩) (hu:(ts.drop o).take us.length=us) (hou:o+us.length<=ts.length) (hv:VTs w Y N us vs) (hK:∀ j,o<=j->j<o+us.length->N<=K j/\ow j=none):Fr X Z w0 L Y (upd C b (splice (C b) o vs)) (w.setCells b o vs)/\Up w Y (w.setCells b o vs) Y:=by
 have hk:Kp (fun k=>k=b) w (w.setCells b o vs):=ai_ b vs o (Kp.refl _ w) (.inl rfl);have A5:=(h.blk _ (Fr.mem hp)).1;have A4:Kp Y w (w.setCells b o vs):=ai_ b vs o (Kp.refl _ w) (.inl A5);have hl:=h.len hp;have A0:((C b).take o).length=o:=by rw [List.length_take,hl];omega
 have out:∀ q,q<o∨o+us.length<=q->(splice (C b) o vs)[q]?=(C b)[q]?:=fun q hq=>by
  unfold splice;rcases hq with hq | hq
  ·rw [List.getElem?_append_left (by rw [A0];exact hq),List.getElem?_take,if_pos hq]
  rw [List.getElem?_append_right (by rw [A0];omega),A0,List.getElem?_append_right (by rw [hv.1];omega),hv.1,List.getElem?_drop]
  congr 1;omega
 refine h.write hp hk (setCells_size _ _ _ _) ((h.box hp).put o vs (by rw [hv.1,hl];exact hou)) (by unfold splice;rw [List.length_append,List.length_append,A0,List.length_drop,hl,hv.1];omega) (fun q s hq=>⟨fun A2=>?_,fun A2=>?_⟩)
 ·by_cases hin:o<=q/\q<o+us.length
  ·have hs:us[q - o]?=some s:=by
    rw [←hu,List.getElem?_take,if_pos o_,List.getElem?_drop,show o+(q - o)=q from by omega];exact hq
   obtain ⟨u,A1,A3⟩:=hv.2 (q - o) s hs;refine ⟨u,?_,A3.kept A4 (fun _ _ h=>h) (hK q hin.1 hin.2).1⟩;unfold splice;rw [List.getElem?_append_right (by rw [A0];omega),A0,List.getElem?_append_left (e_ A1).1];exact A1
  rw [out q o_];obtain ⟨u,A1,A3⟩:=h.val _ (Fr.mem hp) q s hq A2;exact ⟨u,A1,A3.up A4 (l_)⟩
 refine out q ?_;by_cases hin:o<=q/\q<o+us.length
 ·exact absurd (hK q hin.1 hin.2).2 A2
 omega
theorem Fr.append {e:List CT} {et:TypeId} {A A':OA} {n n' c c':Nat} (h:Fr X Z w0 L Y C w) (hp:L[i]?=some ⟨b,K,ts,ow⟩) (hj:ts[j]?=some (.sl e)) (ho:ow j=some et) (hC:(C b)[j]?=some (.slice A n c))
  (hO:OwT w' 0 et e Y (K j) A' n' c') (hn:n'<=K j) (hg:w.grownBy w' (Value.slice A n c).ownBlock) (hloc:∀ g,(Value.slice A' n' c').ownBlock=some g->(Value.slice A n c).ownBlock=some g∨g=w.heap.size) :
  ∃ Y',Fr X Z w0 L Y' (upd C b ((C b).set j (.slice A' n' c'))) (w'.setCell (f_ b j) (.slice A' n' c'))/\Up w Y (w'.setCell (f_ b j) (.slice A' n' c')) Y':=by
 have A4:=Fr.mem hp;obtain ⟨Aa,Am,Ar,Au⟩:=h.blk _ A4;obtain ⟨e1,A1,n1,c1,q1,q2,q3,q4,q5⟩:=h.row _ A4 j _ et hj ho;injection q1 with q1;subst q1;rw [show (C b)[j]?=some (.slice A1 n1 c1) from q2] at hC;injection hC with hC;injection hC with ha hb hc;subst ha hb hc;have A7:j<(C b).length:=(e_ q2).1;have As:b<w.heap.size:=h.lt _ Aa
 -- the world after both
 have A3:∀ g,(Value.slice A1 n1 c1).ownBlock=some g->Y g:=fun g hg=>(q5 g hg).1
 have A9:∀ p ∈ L,(Value.slice A1 n1 c1).ownBlock≠some p.b:=fun p hp he=>(q5 _ he).2.2 p hp rfl
 have Ac:Kp Y w w':=(Kp.refl _ w).grown hg (fun g hg=>.inl (A3 g hg));have Ao:Kp Y w (w'.setCell (f_ b j) (.slice A' n' c')):=Ac.setCell (.inl Aa) _;have Ad:∀ g,(Value.slice A' n' c').ownBlock=some g->g<w'.heap.size:=fun g A0=>by obtain ⟨xs,hx,_⟩:=hO;exact (an_ hx A0).2
 have Ap:∀ k,k<w.heap.size->¬Y k->¬(Y k∨(Value.slice A' n' c').ownBlock=some k):=fun k hk h1 h2=>by
  rcases h2 with h2 | h2
  ·exact h1 h2
  rcases hloc k h2 with h3 | h3
  ·exact h1 (A3 k h3)
  omega
 have Af:Up w Y (w'.setCell (f_ b j) (.slice A' n' c')) (fun k=>Y k∨(Value.slice A' n' c').ownBlock=some k):=⟨Ao,Ap⟩;have hsz:(w'.setCell (f_ b j) (.slice A' n' c')).heap.size=w'.heap.size:=by simp [World.setCell]
 have Ag:∀ p ∈ L,Bx w' p.b (C p.b):=fun p hp=>by
  have hx:=(h.blk p hp).2.2.1;exact hx.kp (X:=fun k=>(Value.slice A1 n1 c1).ownBlock=some k) ((Kp.refl _ w).grown hg (fun g hg=>.inl hg)) (A9 p hp)
 have same:∀ p ∈ L,p.b=b->p=⟨b,K,ts,ow⟩:=fun p hp he=>nodup_eq h.nd hp A4 he
 -- the row's block is none of the variables'
 have Ai:∀ g,(Value.slice A' n' c').ownBlock=some g->∀ q ∈ L,q.b≠g:=fun g A0 q hq=>by
  rcases hloc g A0 with h3 | h3
  ·exact (q5 g h3).2.2 q hq
  have:=h.lt _ (h.blk q hq).1;omega
 -- other rows' blocks are not it
 have Aj:∀ p ∈ L,∀ i u g,(p.b≠b∨i≠j)->p.ow i≠none->(C p.b)[i]?=some u->u.ownBlock=some g->(Value.slice A' n' c').ownBlock≠some g:=fun p hp i u g hne A8 hu A0 An=>by
  rcases hloc g An with h3 | h3
  ·exact h.far p hp _ A4 i j u _ g hne A8 (fun e=>by cases (show some et=none from ho.symm.trans e)) hu q2 A0 h3
  cases hot:p.ts[i]? with
  | none =>
   have h1:=(e_ hu).1;rw [(h.blk p hp).2.2.2] at h1;rw [List.getElem?_eq_none_iff] at hot;omega
  | some t =>
   cases hoo:p.ow i with
   | none=>exact A8 hoo
   | some A6 =>
    obtain ⟨e2,A2,n2,c2,r1,r2,r3,r4,r5⟩:=h.row p hp i t A6 hot hoo;rw [r2] at hu;injection hu with hu;subst hu;have:=h.lt _ (r5 g A0).1;omega
 refine ⟨_,⟨?_,fun k hk=>.inl (h.sub k hk),fun k hk=>?_,fun p hp=>?_,fun p hp q t hq A5=>?_,fun p hp q t A6 hq A5=>?_,fun p hp q hq i1 j1 u v g hne A8 Ak hi Ah hu=>?_,h.nd⟩,Af⟩
 ·refine (h.kp.grown hg (fun g hg=>?_)).setCell (p:=(f_ b j)) ?_ _
  ·rcases (q5 g hg).2.1 with h3 | h3
   ·exact .inr h3
   exact .inl h3
  rcases Am with h3 | h3
  ·exact .inr h3
  exact .inl h3
 ·rw [hsz];rcases hk with hk | hk
  ·exact lt_ (h.lt k hk) hg.size
  exact Ad k hk
 ·obtain ⟨h1,h2,h3,h4⟩:=h.blk p hp;by_cases he:p.b=b
  ·have:=same p hp he;subst this;rw [show (upd C b ((C b).set j (.slice A' n' c'))) b=_ from upd_same _ _ _];exact ⟨.inl h1,h2,(Ag _ A4).set j _,by rw [List.length_set];exact h4⟩
  rw [ad_ _ _ he];exact ⟨.inl h1,h2,(Ag p hp).far (fun e=>he e.symm) _,h4⟩
 ·obtain ⟨v,h1,h2⟩:=h.val p hp q t hq A5;by_cases he:p.b=b
  ·have:=same p hp he;subst this;have Ab:j≠q:=fun e=>by subst e;rw [show ow j=none from A5] at ho;cases ho
   rw [show (upd C b ((C b).set j (.slice A' n' c'))) b=_ from upd_same _ _ _,gs_,if_neg Ab];exact ⟨v,h1,h2.go Af (l_)⟩
  rw [ad_ _ _ he];exact ⟨v,h1,h2.go Af (l_)⟩
 ·by_cases hsame:p.b=b/\q=j
  ·obtain ⟨he,rfl⟩:=hsame;have:=same p hp he;subst this;rw [show ts[q]?=some t from hq] at hj;injection hj with hj;subst hj;rw [show ow q=some A6 from A5] at ho;injection ho with ho;subst ho;rw [show (upd C b ((C b).set q (.slice A' n' c'))) b=_ from upd_same _ _ _];refine ⟨e,A',n',c',rfl,by rw [gs_,if_pos rfl,if_pos A7],hn,?_,fun g A0=>⟨.inr A0,?_,Ai g A0⟩⟩
   ·exact (hO.stay (dl_ w' (f_ b q) _) (fun k hk=>by injection hk with hk;subst hk;exact ⟨Aa,fun A0=>Ai _ A0 _ A4 rfl⟩)).sub (fun k _ hy=>hy) (l_)
   rcases hloc g A0 with h3 | h3
   ·exact (q5 g h3).2.1
   exact .inl (by have:=h.kp.size;omega)
  have hne:p.b≠b∨q≠j:=by
   by_cases h1:p.b=b
   ·exact .inr (fun h2=>hsame ⟨h1,h2⟩)
   exact .inl h1
  obtain ⟨e2,A2,n2,c2,r1,r2,r3,r4,r5⟩:=h.row p hp q t A6 hq A5;have Ae:p.ow q≠none:=by rw [A5];simp
  have Al:((upd C b ((C b).set j (.slice A' n' c'))) p.b)[q]?=some (.slice A2 n2 c2):=by
   by_cases he:p.b=b
   ·have:=same p hp he;subst this;have Ab:j≠q:=fun e=>by rcases hne with h1 | h1;exact h1 rfl;exact h1 e.symm
    rw [show (upd C b ((C b).set j (.slice A' n' c'))) b=_ from upd_same _ _ _,gs_,if_neg Ab];exact r2
   rw [ad_ _ _ he];exact r2
  refine ⟨e2,A2,n2,c2,r1,Al,r3,?_,fun g A0=>⟨.inl (r5 g A0).1,(r5 g A0).2.1,(r5 g A0).2.2⟩⟩;have s1:OwT w 0 A6 e2 (fun k=>Y k∨(Value.slice A' n' c').ownBlock=some k) (p.K q) A2 n2 c2:=r4.sub (fun k hk hy=>by
   rcases hy with hy | hy
   ·exact .inl hy
   rcases hloc k hy with h3 | h3
   ·exact .inl (A3 k h3)
   omega) (l_)
  have s2:=s1.stay hg (fun k hk=>⟨.inl (A3 k hk),fun A0=>h.far p hp _ A4 q j _ _ k hne Ae (fun e=>by cases (show some et=none from ho.symm.trans e)) r2 q2 A0 hk⟩);exact s2.stay (dl_ w' (f_ b j) _) (fun k hk=>by injection hk with hk;subst hk;exact ⟨.inl Aa,fun A0=>(r5 _ A0).2.2 _ A4 rfl⟩)
 have back:∀ p ∈ L,∀ i u,((upd C b ((C b).set j (.slice A' n' c'))) p.b)[i]?=some u->(p.b=b/\i=j/\u=.slice A' n' c')∨((p.b≠b∨i≠j)/\(C p.b)[i]?=some u):=fun p hp i u hu=>by
  by_cases he:p.b=b
  ·have:=same p hp he;subst this;rw [show (upd C b ((C b).set j (.slice A' n' c'))) b=_ from upd_same _ _ _,gs_] at hu;by_cases hij:j=i
   ·subst hij;rw [if_pos rfl,if_pos A7] at hu;injection hu with hu;exact .inl ⟨rfl,rfl,hu.symm⟩
   rw [if_neg hij] at hu;exact .inr ⟨.inr (fun e=>hij e.symm),hu⟩
  rw [ad_ _ _ he] at hu;exact .inr ⟨.inl he,hu⟩
 rcases back p hp i1 u hi with ⟨p1,p2,rfl⟩ | ⟨p1,p2⟩
 ·rcases back q hq j1 v Ah with ⟨r1,r2,rfl⟩ | ⟨r1,r2⟩
  ·exfalso;rcases hne with hne | hne
   ·exact hne (p1.trans r1.symm)
   exact hne (p2.trans r2.symm)
  intro Aq;exact Aj q hq j1 v g r1 Ak r2 Aq hu
 rcases back q hq j1 v Ah with ⟨r1,r2,rfl⟩ | ⟨r1,r2⟩
 ·exact Aj p hp i1 u g p1 A8 p2 hu
 exact h.far p hp q hq i1 j1 u v g hne A8 Ak p2 r2 hu
theorem Fr.add1 (h:Fr X Z w0 L Y C w) (N:Nat) (ts:List CT) (vs:VL) (ty:TypeId) (hv:VTs w Y N ts vs) :
  ∃ W Y' C',W=w.alloc (.cells vs.toArray ty)/\W.heap.size=w.heap.size+1/\Up w Y W Y'/\Fr X Z w0 (⟨w.heap.size,fun _=>N,ts,noOw⟩ :: L) Y' C' W/\C' w.heap.size=vs/\∀ k,k≠w.heap.size->C' k=C k:=by
 obtain ⟨Y',h1,h2⟩:=h.add (fun _=>N) ts noOw vs ty hv.1 (fun j t hj=>by obtain ⟨v,h1,h2⟩:=hv.2 j t hj;exact ⟨v,h1,.inl ⟨rfl,h2⟩⟩);exact ⟨_,Y',_,rfl,by simp,h2,h1,upd_same _ _ _,fun k hk=>ad_ _ _ hk⟩
theorem Fr.up1 {p q:LV} (h:Fr X Z w0 (p :: L) Y C w) (e1:q.b=p.b) (e2:q.ts=p.ts) (e3:q.ow=p.ow) (e4:∀ j,p.K j<=q.K j):Fr X Z w0 (q :: L) Y C w :=
 h.raise rfl (fun i a c ha hc=>by
  cases i with
  | zero=>simp at ha hc;subst ha hc;exact ⟨e1,e2,e3,e4⟩
  | succ i=>simp at ha hc;rw [ha] at hc;injection hc with hc;subst hc;exact ⟨rfl,rfl,rfl,fun _=>l_⟩)
theorem Fr.perm {L':List LV} (h:Fr X Z w0 L Y C w) (hm:∀ p,p ∈ L'->p ∈ L) (hn:(L'.map LV.b).Nodup):Fr X Z w0 L' Y C w :=
 ⟨h.kp,h.sub,h.lt,fun q hq=>h.blk q (hm q hq),fun q hq=>h.val q (hm q hq),
   fun q hq j t et hj ho=>by
  obtain ⟨e,A,n,c,h1,h2,h3,h4,h5⟩:=h.row q (hm q hq) j t et hj ho
  exact ⟨e,A,n,c,h1,h2,h3,h4,fun g hg=>⟨(h5 g hg).1,(h5 g hg).2.1,fun r hr=>(h5 g hg).2.2 r (hm r hr)⟩⟩,
   fun q hq r hr=>h.far q (hm q hq) r (hm r hr),hn⟩
theorem Fr.swap {p q:LV} (h:Fr X Z w0 (p :: q :: L) Y C w):Fr X Z w0 (q :: p :: L) Y C w :=
 h.perm (fun r hr=>by simp at hr ⊢;rcases hr with h | h | h;exact .inr (.inl h);exact .inl h;exact .inr (.inr h)) (by
  have:=h.nd
  simp only [List.map_cons,List.nodup_cons,List.mem_cons,not_or] at this ⊢
  exact ⟨⟨fun e=>this.1.1 e.symm,this.2.1⟩,this.1.2,this.2.2⟩)
theorem Fr.info {P:Program} {T:TypeId} (h:Fr X Z w0 L Y C w) (hp:L[i]?=some ⟨b,K,ts,ow⟩) (hi:(P.info? T).map (·.size)=some ts.length):(P.info? T).map (·.size)=some (C b).length:=by rw [h.len hp];exact hi
theorem Fr.there (h:Fr X Z w0 L Y C w) (hp:L[i]?=some ⟨b,K,ts,ow⟩) {o n:Nat} (hn:o+n<=ts.length):w.there b o n:=(h.box hp).there (by rw [h.len hp];exact hn)
theorem Bx.ah_ {w:World} {b n m:Nat} {cs:VL} (h:Bx w b cs) (hl:cs.length=n) (hm:m<=n):w.there b 0 m:=h.there o_
theorem Fr.blt (h:Fr X Z w0 L Y C w) (hp:L[i]?=some ⟨b,K,ts,ow⟩):b<w:=(h.box hp).1
/- What is handed back. -/
end
def KT (vs us:VL):Prop:=us[42]?=vs[42]?/\us[47]?=vs[47]?
theorem KT.refl (vs:VL):KT vs vs:=⟨rfl,rfl⟩
theorem KT.trans {vs us xs:VL} (h:KT vs us) (h2:KT us xs):KT vs xs:=⟨h2.1.trans h.1,h2.2.trans h.2⟩
theorem KT.set (vs:VL) (j:Nat) (v:Value) (hj:j≠42/\j≠47):KT vs (vs.set j v):=⟨by rw [gs_,if_neg hj.1],by rw [gs_,if_neg hj.2]⟩
def RAk (X:NP) (K:Nat) (ts:List CT) (vs:VL) (e:Ending) (w:World):Prop:=∃ us,e=.returned (.agg us.toArray)/\VTs w X K ts us/\Hid (KT vs us)
def RATk (X:NP) (K:Nat) (ts:List CT) (t:CT) (vs:VL) (e:Ending) (w:World):Prop:=∃ us v,e=.returned (.tuple #[.agg us.toArray,v])/\VTs w X K ts us/\VT w X K t v/\Hid (KT vs us)
theorem Fr.ratk {X:NP} {w0 w:World} {L:List LV} {Y:NP} {C:Nat->VL} {i b N:Nat} {ts:List CT} {t:CT} {v:Value} {vs:VL} (h:Fr X (fun _=>False) w0 L Y C w) (hp:L[i]?=some ⟨b,fun _=>N,ts,noOw⟩) (hv:VT w Y N t v) (hk:KT vs (C b)):RATk X N ts t vs (.returned (.tuple #[.agg (C b).toArray,v])) w/\Below w0 w0 w :=
 ⟨⟨_,_,rfl,(h.whole hp).less (fun k _ hk=>h.sub k hk),hv.less (fun k _ hk=>h.sub k hk),q_ hk⟩,h.below⟩
/- The variables at a function's beginning. -/
section
variable {X:NP} {w:World}
theorem Fr.start1 (hX:∀ k,X k->k<w) (N0:Nat) (s0:List CT) (v0:VL) (t0:TypeId) (h0:VTs w X N0 s0 v0) :
  ∃ W Y C,W=w.alloc (.cells v0.toArray t0)/\W.heap.size=w.heap.size+1/\Up w X W Y/\Fr X (fun _=>False) w [⟨w.heap.size,fun _=>N0,s0,noOw⟩] Y C W/\C w.heap.size=v0:=by
 obtain ⟨W,Y,C,h1,h2,h3,h4,h5,_⟩:=(Fr.nil hX (fun _=>False) (fun _=>[])).add1 N0 s0 v0 t0 h0;exact ⟨W,Y,C,h1,h2,h3,h4,h5⟩
theorem Fr.start2 (hX:∀ k,X k->k<w.heap.size) (N0:Nat) (s0:List CT) (v0:VL) (t0:TypeId) (h0:VTs w X N0 s0 v0) (N1:Nat) (s1:List CT) (v1:VL) (t1:TypeId) (h1:VTs w X N1 s1 v1) :
  ∃ W Y C,W=(w.alloc (.cells v0.toArray t0)).alloc (.cells v1.toArray t1)/\W.heap.size=w.heap.size+2/\Up w X W Y/\Fr X (fun _=>False) w [⟨w.heap.size+1,fun _=>N1,s1,noOw⟩,⟨w.heap.size,fun _=>N0,s0,noOw⟩] Y C W/\C w.heap.size=v0/\C (w.heap.size+1)=v1:=by
 obtain ⟨V,Y0,C0,rfl,hz,u0,f0,c0⟩:=Fr.start1 hX N0 s0 v0 t0 h0;obtain ⟨W,Y,C,hW,A0,u1,f1,d1,d2⟩:=f0.add1 N1 s1 v1 t1 (h1.go u0 (l_));rw [hz] at A0 f1 d1 d2;exact ⟨W,Y,C,hW,A0,u0.trans u1,f1,(d2 _ o_).trans c0,d1⟩
theorem Fr.start3 (hX:∀ k,X k->k<w.heap.size) (N0:Nat) (s0:List CT) (v0:VL) (t0:TypeId) (h0:VTs w X N0 s0 v0) (N1:Nat) (s1:List CT) (v1:VL) (t1:TypeId) (h1:VTs w X N1 s1 v1) (N2:Nat) (s2:List CT) (v2:VL) (t2:TypeId) (h2:VTs w X N2 s2 v2) :
  ∃ W Y C,W=((w.alloc (.cells v0.toArray t0)).alloc (.cells v1.toArray t1)).alloc (.cells v2.toArray t2)/\W.heap.size=w.heap.size+3/\Up w X W Y/\Fr X (fun _=>False) w [⟨w.heap.size+2,fun _=>N2,s2,noOw⟩,⟨w.heap.size+1,fun _=>N1,s1,noOw⟩,⟨w.heap.size,fun _=>N0,s0,noOw⟩] Y C W/\C w.heap.size=v0/\C (w.heap.size+1)=v1/\C (w.heap.size+2)=v2:=by
 obtain ⟨V,Y0,C0,rfl,hz,u0,f0,c0,c1⟩:=Fr.start2 hX N0 s0 v0 t0 h0 N1 s1 v1 t1 h1;obtain ⟨W,Y,C,hW,A0,u1,f1,d1,d2⟩:=f0.add1 N2 s2 v2 t2 (h2.go u0 (l_));rw [hz] at A0 f1 d1 d2;exact ⟨W,Y,C,hW,A0,u0.trans u1,f1,(d2 _ o_).trans c0,(d2 _ o_).trans c1,d1⟩
theorem Fr.start4 (hX:∀ k,X k->k<w.heap.size) (N0:Nat) (s0:List CT) (v0:VL) (t0:TypeId) (h0:VTs w X N0 s0 v0) (N1:Nat) (s1:List CT) (v1:VL) (t1:TypeId) (h1:VTs w X N1 s1 v1) (N2:Nat) (s2:List CT) (v2:VL) (t2:TypeId) (h2:VTs w X N2 s2 v2) (N3:Nat) (s3:List CT) (v3:VL) (t3:TypeId) (h3:VTs w X N3 s3 v3) :
  ∃ W Y C,W=(((w.alloc (.cells v0.toArray t0)).alloc (.cells v1.toArray t1)).alloc (.cells v2.toArray t2)).alloc (.cells v3.toArray t3)/\W.heap.size=w.heap.size+4/\Up w X W Y/\Fr X (fun _=>False) w [⟨w.heap.size+3,fun _=>N3,s3,noOw⟩,⟨w.heap.size+2,fun _=>N2,s2,noOw⟩,⟨w.heap.size+1,fun _=>N1,s1,noOw⟩,⟨w.heap.size,fun _=>N0,s0,noOw⟩] Y C W/\C w.heap.size=v0/\C (w.heap.size+1)=v1/\C (w.heap.size+2)=v2/\C (w.heap.size+3)=v3:=by
 obtain ⟨V,Y0,C0,rfl,hz,u0,f0,c0,c1,c2⟩:=Fr.start3 hX N0 s0 v0 t0 h0 N1 s1 v1 t1 h1 N2 s2 v2 t2 h2;obtain ⟨W,Y,C,hW,A0,u1,f1,d1,d2⟩:=f0.add1 N3 s3 v3 t3 (h3.go u0 (l_));rw [hz] at A0 f1 d1 d2;exact ⟨W,Y,C,hW,A0,u0.trans u1,f1,(d2 _ o_).trans c0,(d2 _ o_).trans c1,(d2 _ o_).trans c2,d1⟩
def CT.zero:CT->Value
 | .num=>.int .i64 0
 | .tru=>.bool false
 | .txt=>.string ByteArray.empty
 | .sl _=>.slice none 0 0
 | .lst _ _=>.slice none 0 0
 | .sat _=>.pointer none
def CT.zok:CT->Bool
 | .sat _=>false
 | _=>true
theorem vt_zero (K:Nat):∀ t:CT,t.zok=true->VT w X K t t.zero
 | .num,_=>.num _
 | .tru,_=>.tru _
 | .txt,_=>.txt _
 | .sl _,_=>.nil _
 | .lst _ _,_=>.lnil _ _
theorem az_ (K:Nat) (ts:List CT) (h:ts.all CT.zok=true:=by rfl):VTs w X K ts (ts.map CT.zero):=⟨by simp,fun j t hj=>⟨t.zero,by simp [hj],vt_zero K t (List.all_eq_true.1 h t (List.mem_of_getElem? hj))⟩⟩
end
theorem Fr.ec_ {X Z:NP} {w0 w:World} {L:List LV} {Y:NP} {C:Nat->VL} (h:Fr X Z w0 L Y C w) (N:Nat) (ts:List CT) (zs us:VL) (ty:TypeId) (hz:VTs w Y N ts zs) (hu:VTs w Y N ts us) :
  ∃ W Y' C',W=(w.alloc (.cells zs.toArray ty)).setCells w.heap.size 0 us/\W.heap.size=w.heap.size+1/\Up w Y W Y'/\Fr X Z w0 (⟨w.heap.size,fun _=>N,ts,noOw⟩ :: L) Y' C' W/\C' w.heap.size=us/\∀ k,k≠w.heap.size->C' k=C k:=by
 obtain ⟨W,Y',C',rfl,h2,h3,h4,h5,h6⟩:=h.add1 N ts zs ty hz;obtain ⟨h7,h8⟩:=h4.sets (i:=0) rfl (hu.go h3 (l_));exact ⟨_,Y',_,rfl,by rw [setCells_size];exact h2,h3.trans h8,h7,upd_same _ _ _,fun k hk=>by rw [ad_ _ _ hk];exact h6 k hk⟩
structure EI (P:Program) (t et:TypeId) (e:List CT) (bytes:Nat):Prop where
 ht:P.underlying t=some (.slice et)
 hi:∃ i z,P.info? et=some i/\i.zero=some z/\i.size=e.length/\i.bytes=bytes/\z.cells.size=e.length
 hsz:0<e.length
theorem EI.of {P:Program} {t et:TypeId} {e:List CT} {bytes:Nat} {z:Value} (ht:P.underlying t=some (.slice et)) (hi:(P.info? et).map (fun i=>(i.zero,i.size,i.bytes))=some (some z,e.length,bytes)) (hz:z.cells.size=e.length) (hsz:0<e.length):EI P t et e bytes:=by
 cases h:P.info? et with
 | none=>rw [h] at hi;cases hi
 | some i =>
  rw [h] at hi;simp at hi;exact ⟨ht,⟨i,z,h,hi.1,hi.2.1,hi.2.2,hz⟩,hsz⟩
section
variable {P:Program} {X:NP} {K n m c d bytes:Nat} {A B:OA} {e:List CT} {t et:TypeId}
theorem run_append_sh (w:World) (ty:TypeId) (E:EI P t et e bytes) (hd:SlT w X K e A n c) (hs:SlT w X K e B m d) (hf:m=0∨c<n+m) (hX:∀ k,X k->k<w) (hK:n+m<=K) (h63:K<=maxLen) (hb:K*bytes<=140737488355328) :
  ∃ A' c' w',(Builtin.append_ #[t,t] ty #[.slice A n c,.slice B m d]).run P w=.ok (.slice A' (n+m) c') w'/\SlT w' X K e A' (n+m) c'/\Below w w w':=by
 obtain ⟨i,z,hi,hz,h1,h2,h3⟩:=E.hi;by_cases hm:m=0
 ·subst hm;exact ⟨A,c,w,ci_ w t ty et i E.ht hi A n c hd.cap B d,hd,b_⟩
 obtain ⟨A',c',w',hr,ho,A0⟩:=eq_ (P:=P) w t ty et i z bytes e X K E.ht hi hz h1 h2 h3 E.hsz A n c hd B m d hs o_ o_ hX o_ (Nat.le_trans (Nat.mul_le_mul_right _ hK) hb);exact ⟨A',c',w',hr,ho.slT hX hK,A0⟩
variable {ops:Array Oper} {rest:List Oper} {o:Oper} {a:Act} {w:World} {Q:Exit->Act->World->Prop}
theorem cd_ {K0:Act->World->Prop} {El:Prop} (hgd:o.guard=none) (s x:Operand) (ho:o.op=.call { callee:=.builtin .append,args:=#[s,x],argTypes:=#[t,t] }) (E:EI P t et e bytes) (X:NP) (K:Nat)
  (A:OA) (n c:Nat) (hs:a.eval s=.slice A n c) (hd:SlT w X K e A n c) (B:OA) (m d:Nat) (hx:a.eval x=.slice B m d) (hsrc:SlT w X K e B m d) (hf:m=0∨c<n+m) (hX:∀ k,X k->k<w) (hK:n+m<=K) (h63:K<=maxLen) (hb:K*bytes<=140737488355328)
  (h:∀ A' c' w',SlT w' X K e A' (n+m) c'->Below w w w'->K0 (a.put o.dst (.slice A' (n+m) c')) w'):if Region.wanted o (yielded ops a.tmps)=true then Oper.wp P o a w K0 Q else El:=by
 obtain ⟨A',c',w',hr,h1,h2⟩:=run_append_sh w o.type E hd hsrc hf hX hK h63 hb;have hw:Region.wanted o (yielded ops a.tmps)=true:=by simp [Region.wanted,hgd]
 rw [if_pos hw];exact Lib.wp_append_run w s x t t ho _ _ hs hx _ _ hr (h A' c' w' h1 h2)
theorem wpList_append_sh (hgd:o.guard=none) (s x:Operand) (ho:o.op=.call { callee:=.builtin .append,args:=#[s,x],argTypes:=#[t,t] }) (E:EI P t et e bytes) (X:NP) (K:Nat)
  (A:OA) (n c:Nat) (hs:a.eval s=.slice A n c) (hd:SlT w X K e A n c) (B:OA) (m d:Nat) (hx:a.eval x=.slice B m d) (hsrc:SlT w X K e B m d) (hf:m=0∨c<n+m) (hX:∀ k,X k->k<w) (hK:n+m<=K) (h63:K<=maxLen) (hb:K*bytes<=140737488355328)
  (h:∀ A' c' w',SlT w' X K e A' (n+m) c'->Below w w w'->wpList P ops Q rest (a.put o.dst (.slice A' (n+m) c')) w'):wpList P ops Q (o :: rest) a w:=by
 obtain ⟨A',c',w',hr,h1,h2⟩:=run_append_sh w o.type E hd hsrc hf hX hK h63 hb;exact Lib.wpList_append_run w hgd s x t t ho _ _ hs hx _ _ hr (h A' c' w' h1 h2)
theorem EI.high3 (E:EI P t et e bytes) {A:OA} {n c k:Nat} (hk:k<=c) (w:World):(Instr.slice t (.slice A n c) none (some (i_ k)) (some (i_ k))).run P w=.ok (.slice A k k) w:=by
 obtain ⟨i,z,hi,_⟩:=E.hi;exact ep_ E.ht hi hk w
theorem EI.low (E:EI P t et e bytes) {A:OA} {n c k:Nat} (hk:k<=n) (w:World):(Instr.slice t (.slice A n c) (some (i_ k)) none none).run P w=.ok (.slice (cutA A c k e.length) (n - k) (c - k)) w:=by
 obtain ⟨i,z,hi,_,h1,_⟩:=E.hi;rw [et_ E.ht hi hk,h1]
end
end Go.Proofs.YtfolidlmgfhkiaaGreat
