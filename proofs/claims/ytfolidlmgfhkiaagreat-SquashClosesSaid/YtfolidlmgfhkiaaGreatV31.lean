/- Lemmas on functions of the program, under the conditions that each states. -/
import Derived.Test.YtfolidlmgfhkiaaGreatV30
import Derived.Test.YtfolidlmgfhkiaaGreatV29
set_option linter.unusedVariables false
set_option linter.unusedSimpArgs false
set_option maxRecDepth 100000
set_option maxHeartbeats 4000000
namespace Go.Proofs.YtfolidlmgfhkiaaGreat
open Go.RowKit Go.Proofs.Tryz
theorem rest_m {X Z Y:NP} {w0:World} {LL:List LV} {b K L:Nat} {l:List In} {pc:Int} {C:Nat->VL} (w:World) (h:OneS X Z w0 LL b K L l pc Y C w) (hK:K<=1000000000) (hL:100<=L/\L<=9000) (i:Nat) (x:In) (hpc:pc=(i:Int)) (hx:OkI l i x) :
  Calls prog 127 #[.pointer (some (a_ b)),.agg #[i_ x.op,i_ x.a,i_ x.b,i_ x.c,i_ x.n]] w fun e w'=>e=.returned (.tuple #[])/\Ms X Z w0 LL b K (L+30) l pc Y C w w' (fun j=>j<38):=by
 by_cases h5:x.op=5
 ·exact rest_load w h hK hL i x hpc hx h5
 by_cases h6:x.op=6
 ·exact rest_store w h hK hL i x hpc hx h6
 by_cases h7:x.op=7
 ·exact rest_new w h hK hL i x hpc hx h7
 by_cases h13:x.op=13
 ·exact rest_call w h hK hL i x hpc hx h13
 by_cases h14:x.op=14
 ·exact rest_return w h hK hL i x hpc hx h14
 by_cases h15:x.op=15
 ·exact rest_result w h hK hL i x hpc hx h15
 by_cases h18:x.op=18
 ·exact rest_caught w h hK hL i x hpc hx h18
 by_cases h17:x.op=17
 ·exact rest_handler w h hK hL i x hpc hx h17
 exact rest_none w h hK hL i x hpc hx ⟨h5,h6,h7,h13,h14,h15,h18,h17⟩
section
variable {X Z Y:NP} {w0 w w':World} {L:List LV} {C:Nat->VL} {b i j N o:Nat} {K:Nat->Nat} {ts us:List CT} {ow:Nat->Option TypeId} {t:CT} {v:Value} {vs:VL}
theorem Fr.set1 (h:Fr X Z w0 L Y C w) (hp:L[i]?=some ⟨b,K,ts,ow⟩) (hj:ts[j]?=some t) (ho:ow j=none) (hv:VT w Y (K j) t v) :
  ∃ W C',W=w.setCell (f_ b j) v/\Fr X Z w0 L Y C' W/\Up w Y W Y/\(∀ k,k≠b->C' k=C k)/\C' b=(C b).set j v/\(W:Nat)=w:=by
 obtain ⟨f,u⟩:=h.set hp hj ho hv;exact ⟨_,_,rfl,f,u,fun k hk=>ad_ _ _ hk,upd_same _ _ _,by simp [World.setCell]⟩
theorem Fr.part1 (h:Fr X Z w0 L Y C w) (hp:L[i]?=some ⟨b,K,ts,ow⟩) (o:Nat) (hu:(ts.drop o).take us.length=us) (hou:o+us.length<=ts.length) (hv:VTs w Y N us vs) (hK:∀ j,o<=j->j<o+us.length->N<=K j/\ow j=none) :
  ∃ W C',W=w.setCells b o vs/\Fr X Z w0 L Y C' W/\Up w Y W Y/\(∀ k,k≠b->C' k=C k)/\C' b=splice (C b) o vs/\(W:Nat)=w:=by
 obtain ⟨f,u⟩:=h.part hp hu hou hv hK;exact tl_
theorem Fr.sets1 (h:Fr X Z w0 L Y C w) (hp:L[i]?=some ⟨b,fun _=>N,ts,noOw⟩) (hv:VTs w Y N ts vs) :
  ∃ W C',W=w.setCells b 0 vs/\Fr X Z w0 L Y C' W/\Up w Y W Y/\(∀ k,k≠b->C' k=C k)/\C' b=vs/\(W:Nat)=w:=by
 obtain ⟨f,u⟩:=h.sets hp hv;exact tl_
theorem Fr.more_own (h:Fr X Z w0 L Y C w) (hno:∀ p ∈ L,p.ow=noOw) (hb:Below w.heap.size w w') {A:OA} {n c:Nat} (hA:∀ g,(Value.slice A n c).ownBlock=some g->w.heap.size<=g/\g<w'.heap.size) :
  ∃ Y',Fr X Z w0 L Y' C w'/\Up w Y w' Y'/\(∀ g,(Value.slice A n c).ownBlock=some g->Y' g/\w0.heap.size<=g/\∀ p ∈ L,p.b≠g)/\(∀ k,Y k->Y' k):=by
 have A0:∀ k,k<w.heap.size->¬Y k->¬(Y k\/(Value.slice A n c).ownBlock=some k):=fun k hk h1 h2=>by
  rcases h2 with h2 | h2
  ·exact h1 h2
  have:=hA k h2;omega
 have A2:Up w Y w' (fun k=>Y k\/(Value.slice A n c).ownBlock=some k):=⟨.of_below hb,A0⟩;have hz:=h.kp.size;refine ⟨_,⟨h.kp.bb_ hb,fun k hk=>.inl (h.sub k hk),fun k hk=>?_,fun p hp=>?_,fun p hp j t hj ho=>?_,fun p hp j t et hj ho=>?_,fun p hp q hq i j u v g hne A1=>?_,h.nd⟩,A2,fun g hg=>⟨.inr hg,by have:=hA g hg;omega,fun p hp=>?_⟩,fun k hk=>.inl hk⟩
 ·rcases hk with hk | hk
  ·exact lt_ (h.lt k hk) hb.size
  exact (hA k hk).2
 ·obtain ⟨h1,h2,h3,h4⟩:=h.blk p hp;exact ⟨.inl h1,h2,h3.below hb,h4⟩
 ·obtain ⟨v,h1,h2⟩:=h.val p hp j t hj ho;exact ⟨v,h1,h2.go A2 (l_)⟩
 ·rw [hno p hp] at ho;cases ho
 ·rw [hno p hp] at A1;exact absurd rfl A1
 have h1:=(h.blk p hp).2.2.1.1;have:=hA g hg;omega
theorem Fr.grow_own (h:Fr X Z w0 L Y C w) (hno:∀ p ∈ L,p.ow=noOw) {A A':OA} {n c n' c':Nat} (hg:w.grownBy w' (Value.slice A n c).ownBlock) (hA:∀ g,(Value.slice A n c).ownBlock=some g->Y g/\w0.heap.size<=g/\∀ p ∈ L,p.b≠g)
  (hloc:∀ g,(Value.slice A' n' c').ownBlock=some g->(Value.slice A n c).ownBlock=some g\/g=w.heap.size) (hlt:∀ g,(Value.slice A' n' c').ownBlock=some g->g<w'.heap.size) :
  ∃ Y',Fr X Z w0 L Y' C w'/\Up w Y w' Y'/\(∀ g,(Value.slice A' n' c').ownBlock=some g->Y' g/\w0.heap.size<=g/\∀ p ∈ L,p.b≠g)/\(∀ k,Y k->Y' k):=by
 have A4:Kp Y w w':=(Kp.refl _ w).grown hg (fun g hg=>.inl (hA g hg).1);have A1:∀ k,k<w.heap.size->¬Y k->¬(Y k\/(Value.slice A' n' c').ownBlock=some k):=fun k hk h1 h2=>by
  rcases h2 with h2 | h2
  ·exact h1 h2
  rcases hloc k h2 with h3 | h3
  ·exact h1 (hA k h3).1
  omega
 have A3:Up w Y w' (fun k=>Y k\/(Value.slice A' n' c').ownBlock=some k):=⟨A4,A1⟩;have hz:=h.kp.size;refine ⟨_,⟨?_,fun k hk=>.inl (h.sub k hk),fun k hk=>?_,fun p hp=>?_,fun p hp j t hj ho=>?_,fun p hp j t et hj ho=>?_,fun p hp q hq i j u v g hne A2=>?_,h.nd⟩,A3,fun g A0=>⟨.inr A0,?_⟩,fun k hk=>.inl hk⟩
 ·exact h.kp.grown hg (fun g A0=>.inr (hA g A0).2.1)
 ·rcases hk with hk | hk
  ·exact lt_ (h.lt k hk) hg.size
  exact hlt k hk
 ·obtain ⟨h1,h2,h3,h4⟩:=h.blk p hp;exact ⟨.inl h1,h2,h3.kp (X:=fun k=>(Value.slice A n c).ownBlock=some k) ((Kp.refl _ w).grown hg (fun g A0=>.inl A0)) (fun he=>(hA _ he).2.2 p hp rfl),h4⟩
 ·obtain ⟨v,h1,h2⟩:=h.val p hp j t hj ho;exact ⟨v,h1,h2.go A3 (l_)⟩
 ·rw [hno p hp] at ho;cases ho
 ·rw [hno p hp] at A2;exact absurd rfl A2
 rcases hloc g A0 with h3 | h3
 ·exact (hA g h3).2
 refine ⟨o_,fun p hp=>?_⟩;have h1:=(h.blk p hp).2.2.1.1;omega
end
def comS:List CT:=comT.set 3 (.sat fun _=>True)
theorem comS_at {j:Nat} (h:j≠3):comS[j]?=comT[j]?:=by unfold comS;rw [gs_,if_neg (fun e=>h e.symm)]
theorem com_weak {X Z Y:NP} {w0 w:World} {L:List LV} {C:Nat->VL} {b N:Nat} {p q:LV} (h:Fr X Z w0 (p :: q :: ⟨b,fun _=>N,comT,noOw⟩ :: L) Y C w):Fr X Z w0 (p :: q :: ⟨b,fun _=>N,comS,noOw⟩ :: L) Y C w:=by
 have same:∀ (p' q':LV),p'=q'->q'.b=p'.b/\q'.ow=p'.ow/\(∀ j,p'.K j<=q'.K j)/\q'.ts.length=p'.ts.length/\∀ j t t',p'.ts[j]?=some t->q'.ts[j]?=some t' →
   (p'.ow j=none->∀ v,VT w Y (q'.K j) t v->VT w Y (q'.K j) t' v)/\(p'.ow j≠none->∀ e:List CT,t=.sl e->∃ e':List CT,t'=.sl e'/\e'.length=e.length/\∀ (i:Nat) (s s':CT),e[i]?=some s->e'[i]?=some s'->∀ (X':NP) (K':Nat) (v:Value),VT w X' K' s v->VT w X' K' s' v):=by
  rintro p' _ rfl;refine ⟨rfl,rfl,fun _=>l_,rfl,fun j t t' hj A0=>?_⟩;rw [hj] at A0;injection A0 with A0;subst A0;exact ⟨fun _ v hv=>hv,fun _ e he=>⟨e,he,rfl,fun i s s' hs A1 X' K' v hv=>by rw [hs] at A1;injection A1 with A1;subst A1;exact hv⟩⟩
 refine h.weak rfl (fun i p' q' hp hq=>?_)
 match i,hp,hq with
 | 0,hp,hq=>exact same _ _ wn_
 | 1,hp,hq=>exact same _ _ wn_
 | 2,hp,hq =>
  injection hp with hp;injection hq with hq;subst hp hq;refine ⟨rfl,rfl,fun _=>l_,rfl,fun j t t' hj A0=>⟨fun _ v hv=>?_,fun h=>absurd rfl h⟩⟩;by_cases h3:j=3
  ·subst h3;have A0:comS[3]?=some t':=A0;injection A0 with A0;subst A0;exact .sat _ _ hv.one trivial
  have A0:comS[j]?=some t':=A0;rw [comS_at h3,show comT[j]?=some t from hj] at A0;injection A0 with A0;subst A0;exact hv
 | i+3,hp,hq =>
  refine same _ _ ?_;have hp:L[i]?=some p':=by simpa using hp
  have hq:L[i]?=some q':=by simpa using hq
  rw [hp] at hq;injection hq
def Fy (X:NP) (w:World) (L:List LV) (b:Nat) (Y:NP) (Cx:Nat->VL) (base:Nat) (et:TypeId) (Y2:NP) (M:Nat) (A:OA) (n c:Nat) (wx:World):Prop:=∃ C',Fr X (fun _=>False) w L Y C' wx/\(C' b)[3]?=some (.slice A n c)/\OwT wx base et actT Y2 M A n c/\∀ k,k≠b->C' k=Cx k
section
variable {X Y Y2:NP} {w wx w2:World} {L:List LV} {Cx:Nat->VL} {b i j base M N n c:Nat} {et:TypeId} {K:Nat->Nat} {ts:List CT} {ow:Nat->Option TypeId} {t:CT} {v:Value} {A:OA}
theorem Fy.set (h:Fy X w L b Y Cx base et Y2 M A n c wx) (hb:Y2 b/\b<base) (hp:L[i]?=some ⟨b,K,ts,ow⟩) (hj:ts[j]?=some t) (ho:ow j=none) (h3:j≠3) (hv:VT wx Y (K j) t v):Fy X w L b Y Cx base et Y2 M A n c (wx.setCell (f_ b j) v):=by
 obtain ⟨C',f,hC,hO,hk⟩:=h;obtain ⟨f2,_⟩:=f.set hp hj ho hv;exact ⟨_,f2,by rw [upd_same,gs_,if_neg h3];exact hC,hO.kept (dt_ wx (f_ b j) v) (fun k hk=>by injection hk with hk;subst hk;exact hb),fun k h=>by rw [ad_ _ _ h];exact hk k h⟩
theorem Fy.drew (h:Fy X w L b Y Cx base et Y2 M A n c wx):Fy X w L b Y Cx base et Y2 M A n c wx.drew:=by
 obtain ⟨C',f,hC,hO,hk⟩:=h;exact ⟨_,f.drew,hC,hO.below (Below.drew (b_)),hk⟩
theorem Fy.call (h:Fy X w L b Y Cx base et Y2 M A n c wx) (hb:Below wx wx w2):Fy X w L b Y Cx base et Y2 M A n c w2:=by
 obtain ⟨C',f,hC,hO,hk⟩:=h;exact ⟨_,f.call hb,hC,hO.below hb,hk⟩
theorem Fy.end_ {r k:Nat} {C:Nat->VL} (F:Fr X (fun _=>False) w L Y C wx) (hr:L[i]?=some ⟨r,fun _=>N,comT,noOw⟩) (hs:L[k]?=some ⟨b,fun _=>N,comS,noOw⟩) (h3:(C b)[3]?=some (.slice A n c)) (hO:OwT wx base et actT Y2 M A n c) (hn:n<=M) (hM:M<=N) (hbase:w<=base) (hX:∀ k,X k->k<w/\Y2 k) (hr2:Y2 r/\r<base) (ev:Int) :
  Bx (wx.setCells r 0 (C b)) r (C b)/\(C b).length=comT.length/\(∀ u ∈ C b,u.oneCell'=true)/\RCom X N (.returned (.tuple #[.agg (C b).toArray,i_ ev])) (wx.setCells r 0 (C b))/\Below w w (wx.setCells r 0 (C b)):=by
 have hl:(C b).length=comT.length:=(F.len hs).trans za_;obtain ⟨A0,A3,A1,A2⟩:=F.blk _ (Fr.mem hr);have hv:VTs wx (fun k=>X k\/k=r) N comT (C b):=⟨hl,fun j t hj=>by
  by_cases e:j=3
  ·subst e
   have hj:comT[3]?=some t:=hj
   injection hj with hj
   subst hj
   refine ⟨_,h3,((hO.sub (Y':=fun k=>X k\/k=r) (fun q _ hq=>?_) hM).slT (fun q hq=>?_) (Nat.le_trans hn hM)).vt⟩
   ·rcases hq with hq | hq
    ·exact .inl (hX q hq).2
    subst hq;exact .inl hr2.1
   rcases hq with hq | hq
   ·exact lt_ (hX q hq).1 hbase
   subst hq;exact hr2.2
  obtain ⟨v,h1,h2⟩:=F.val _ (Fr.mem hs) j t (by show comS[j]?=some t;rw [comS_at e];exact hj) rfl
  exact ⟨v,h1,h2.less (fun q _ hq=>by rcases hq with hq | hq;exact F.sub q hq;subst hq;exact A0)⟩⟩
 have hk:Kp (fun k=>X k\/k=r) wx (wx.setCells r 0 (C b)):=ag_ r _ 0 (Kp.refl _ wx) (.inl (.inr rfl));refine ⟨A1.all _ (by rw [hl];exact A2.symm),hl,hv.one,⟨_,ev,rfl,(hv.up hk (l_)).less (fun q _ hq=>.inl hq)⟩,(ag_ r _ 0 F.kp ?_).below (l_) (fun _ _ h=>h)⟩;rcases A3 with h | h
 ·exact .inr h
 exact h.elim
end
def ROw (base:Nat) (et:TypeId) (X:NP) (K m:Nat) (en:Ending) (w:World):Prop:=∃ (A:OA) (c:Nat),en=.returned (.slice A m c)/\Hid (OwT w base et actT X K A m c)
theorem actions_o (X:NP) (K L:Nat) (A:OA) (n c:Nat) (B:OA) (m d:Nat) (w:World) (ha:SlT w X K actT A n c) (hb:SlT w X L actT B m d) (hK:K<=100000000000) (hL:L<=100000000000) (hX:∀ k,X k->k<w) :
  Calls prog 75 #[.slice A n c,.slice B m d] w fun e w'=>ROw w 152 X (K+L) (n+m) e w'/\Below w w w':=by
 obtain ⟨i0,A1,A2,A3,A6⟩:=info_parts infoAc;have HA:=h_ (SlT w (Wi X (Value.slice none 0 0).ownBlock) (K+L) actT A n c) (ha.kept (Kp.refl _ _) (fun k _ h h2=>by rcases h2 with h2 | h2;exact h h2;cases h2) o_);have HB:=q_ hb;have A0:=q_ hX;have h1:=ha.le;have h2:=hb.le;clear ha hb hX;go_enter func75,ntmps75;go_wp2_with (at_builtin;first
  | (refine ao_ rfl _ _ 36 rfl w 152 i0 _ 24 actT X (K+L) underlying36 A1 A2 A3 A6 rfl d_ none 0 0 zc_ (OwT.nil _ _ _ _ _ _) A n c zc_ HA.o A0.o m_ o_ (l_) ?_;intro A4 c4 w4 o4 g4 l4;rw [Nat.zero_add] at o4 l4 ⊢;have b4:Below w w w4:=aj_ g4 (l_) (fun k hk=>by cases hk);have z4:=b4.size;have O4:=q_ o4;have L4:=q_ l4;clear o4 l4 g4)
  | (refine ao_ rfl _ _ 36 rfl w 152 i0 _ 24 actT X (K+L) underlying36 A1 A2 A3 A6 rfl d_ A4 n c4 zc_ O4.o B m d zc_ (HB.o.kept (Kp.of_below b4) (fun k hk h h2=>by rcases h2 with h2 | h2;exact h h2;rcases L4.o k h2 with h3 | h3;cases h3;omega) o_) (fun k hk=>by have:=A0.o k hk;omega) m_ o_ z4 ?_;intro A5 c5 w5 o5 g5 l5;have b5:Below w w w5:=b4.grown g5 z4 (fun k hk=>by rcases L4.o k hk with h3 | h3;cases h3;omega);have O5:=q_ o5;clear o5 l5 g5))
 go_ret;exact ⟨⟨_,_,rfl,O5⟩,b5⟩
end Go.Proofs.YtfolidlmgfhkiaaGreat
