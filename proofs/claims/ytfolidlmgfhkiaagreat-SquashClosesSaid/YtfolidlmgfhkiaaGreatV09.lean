/- Lemmas on functions of the program, under the conditions that each states. -/
import Derived.Test.YtfolidlmgfhkiaaGreatV08
import Derived.Test.YtfolidlmgfhkiaaGreatV07
set_option linter.unusedVariables false
set_option linter.unusedSimpArgs false
set_option maxRecDepth 100000
set_option maxHeartbeats 8000000
namespace Go.Proofs.YtfolidlmgfhkiaaGreat
open Go.RowKit Go.Proofs.Tryz
theorem infoOb:(prog.info? 90).map (fun i=>(i.zero,i.size,i.bytes))=some (some (.agg #[i_ 0,.slice none 0 0]),2,32):=by kernel_rfl
theorem Over_t (X:NP) (K:Nat) (A:OA) (n c:Nat) (L:Nat) (vs:VL) (w:World) (h:SlT w X K objT A n c) (hK:K<=1000000000000) (ht:VTs w X L ae_ vs) (hL:L<=1000000000000) (hX:∀ k,X k->k<w) :
  Calls prog 83 #[.agg #[.slice A n c],.agg vs.toArray] w fun e w'=>RH X (K+2*L) e w'/\Below w w w':=by
 obtain ⟨i0,AV,AY,AZ,B3⟩:=info_parts infoOb;obtain ⟨NA,nn,nc,Ab,A2⟩:=ht.slc (j:=39) (e:=objT) rfl;obtain ⟨WA,wn,wc,Aa,Ae⟩:=ht.slc (j:=38) (e:=ap_) rfl;obtain ⟨DA,dn,dc,Ac,A9⟩:=ht.slc (j:=40) (e:=bj_) rfl;obtain ⟨W,hW,A3,AU,B0,B1,B2⟩:=ei_ w [.slice A n c] 35 vs 65 [.slice none 0 0] 35;have A6:∀ k,k<w.heap.size->¬X k->¬(X k\/(w.heap.size<=k/\k<w.heap.size+3)):=fun k hk h1 h2=>by rcases h2 with h2 | h2;exact h1 h2;omega
 have H:=q_ (h.kept (Y:=fun k=>X k\/(w<=k/\k<w+3)) (Kp.of_below A3) A6 (Nat.le_refl K));have HN:=q_ (A2.kept (Y:=fun k=>X k\/(w<=k/\k<w+3)) (Kp.of_below A3) A6 (Nat.le_refl L));have AN:=q_ (Ae.kept (Y:=fun k=>X k\/(w<=k/\k<w+3)) (Kp.of_below A3) A6 (Nat.le_refl L));have Az:=q_ (A9.kept (Y:=fun k=>X k\/(w<=k/\k<w+3)) (Kp.of_below A3) A6 (Nat.le_refl L));have HW:=q_ A3;have Au:=q_ B0;have Av:=q_ B1;have Aw:=q_ B2;have AW:=h.le;have AX:=A2.le;have A5:=h_ (∀ k,(X k\/(w<=k/\k<w+3))->k<W) (fun k hk=>by rcases hk with hk | hk;have:=hX k hk;omega;omega);have c0:=B0.2.1 0 _ rfl;have f0:=B0.2.2;have As:(w:Nat)+3=W:=by omega
 have AP:=q_ As;have HF:=q_ (And.intro Ab (And.intro Aa Ac));clear h ht hX B0 B1 B2 A3 AU A2 Ae A9 A6 As Ab Aa Ac;go_enter func83,ntmps83;go_upto_region 1 with fail;rw [<-hW];clear hW;have HA:=h_ (SlT W (Wi (fun k=>X k\/(w<=k/\k<w+3)) (Value.slice none 0 0).ownBlock) K objT A n c) (H.o.kept (Kp.refl _ _) (fun k _ h h2=>by rcases h2 with h2 | h2;exact h h2;cases h2) (Nat.le_refl K));go_upto_region 2 with (at_builtin;refine ao_ rfl _ _ 33 rfl W 90 i0 _ 32 objT (fun k=>X k\/(w<=k/\k<w+3)) K underlying33 AV AY AZ B3 rfl d_ none 0 0 zc_ (OwT.nil _ _ _ _ _ _) A n c zc_ HA.o A5.o m_ o_ (l_) ?_;intro A4 c4 w4 o4 g4 l4;rw [Nat.zero_add] at o4 l4 ⊢;have b4:Below W W w4:=aj_ g4 (l_) (fun k hk=>by cases hk);have O4:=q_ (o4.slT A5.o AW);have BX:=q_ (Au.o.below b4);have m0:=BX.o.2.1 0 _ rfl;have m1:=BX.o.2.2;have B4:=q_ b4;clear o4 l4 g4 c0 f0 b4);obtain ⟨U,hU⟩:=ex_ (w4.setCell (a_ w) (.slice A4 n c4));have zW:=AP.o;have AA:=h_ (Kp (fun k=>k=w) W U) xa_;have AH:=h_ (SlT U (fun k=>X k\/(w<=k/\k<w+3)) (K+L) objT A4 n c4) y6_;have AJ:=h_ (Bx U w [.slice A4 n c4]) wq_;have An:=h_ (Bx U (w+1) vs) (by rw [hU];exact (Av.o.below B4.o).far z1_ _);have AI:=h_ (Bx U (w+2) [.slice none 0 0]) (by rw [hU];exact (Aw.o.below B4.o).far ye_ _);rw [<-hU];have B5:=An.o.2.1 39 _ HF.o.1;clear hU m0 m1;go_upto_region 3 with fail;clear B5;go_loopw [14] (fun i wr=>∃ (k:Nat) (C:OA) (q d:Nat),k<=nn/\i=i_ k/\Hid (SlT wr (fun k=>X k\/(w<=k/\k<w+3)) (K+L+k) objT C q d)/\Hid (Bx wr w [.slice C q d])/\Hid (Bx wr (w+1) vs)/\Hid (Bx wr (w+2) [.slice none 0 0])/\Hid (Kp (fun k=>k=w) W wr)) (fun i _=>nn - (intOf i).toNat)
 case atStart=>exact ⟨0,A4,n,c4,o_,rfl,AH,AJ,An,AI,AA⟩
 obtain ⟨k,C,q,d,hk,rfl,hC,Ah,A8,Ag,Ai⟩:=hrel;have B7:=Ai.o.size;have Ad:Kp (fun k=>X k\/(w<=k/\k<w+3)) W wr:=Ai.o.mono (fun k _ h=>.inr ⟨o_,o_⟩);by_cases hlt:k<nn
 ·have Am:(k:Int)<(nn:Int):=by omega
  obtain ⟨g,o,rfl,hg,x,Aq,Ar,hx⟩:=(HN.o.up Ad (Nat.le_refl L)).obj_at hlt;obtain ⟨c4,c5⟩:=hx wr (b_);obtain ⟨V,hV,A0,AT,V0⟩:=af_ wr [i_ x.id,.slice x.A x.n x.c] 90;have v0:=V0.2.1 0 _ rfl;have v1:=V0.2.1 1 _ rfl;have c8:=(Ah.o.below A0).2.1 0 _ rfl;have AM:=q_ (Ah.o.below A0);have AL:=q_ (A8.o.below A0);have AK:=q_ (Ag.o.below A0);have Ax:=q_ (hC.o.up (Kp.of_below A0) (l_));have AB:=q_ (Ai.o.trans (.of_below A0));have AD:=q_ (Aq.up (Kp.of_below A0) (show L<=K+L+k by omega));have AE:=q_ (Ar.up A0);have B6:=A0.size;clear hx Aq Ar Ad A0 AT V0;go_upto_region 5 with fail;rw [<-hV];clear hV c4 c5;go_wp2_with fail;refine (Put_t (fun k=>X k\/(w<=k/\k<w+3)) (K+L+k) C q d x V Ax.o AD.o AE.o o_ (fun k hk=>by have:=A5.o k hk;omega)).mono ?_;rintro e Z ⟨⟨C2,q2,d3,rfl,Ak⟩,hZ⟩;have Aj:=q_ (AM.o.below hZ);have AR:=q_ (AL.o.below hZ);have AQ:=q_ (AK.o.below hZ);have AC:=q_ (AB.o.trans (.of_below hZ));have y0:=Aj.o.2.1 0 _ rfl;have y1:=Aj.o.2.2;clear hZ c8 v0 v1;go_wp2;go_roundw
  case rel=>exact ⟨k+1,C2,q2,d3,o_,zb_,q_ (Ak.o.up ((Kp.refl _ Z).setCell (.inl (.inr ⟨l_,xm_⟩)) _) o_),q_ (Aj.o.set 0 _),q_ (AR.o.far z1_ _),q_ (AQ.o.far ye_ _),q_ (AC.o.setCell (.inl rfl) _)⟩
  case measure=>exact me_
 have Am:¬(k:Int)<(nn:Int):=by omega
 have Ap:=AN.o.up Ad (Nat.le_refl L);have Ao:=Az.o.up Ad (Nat.le_refl L);have AO:=q_ Ap;have Ay:=q_ Ao;have KS:=h_ (∀ w',Below wr wr w'->(w'.cell? (a_ w)=some (.slice C q d)/\w'.cell? (f_ (w+1) 38)=some (.slice WA wn wc)/\w'.cell? (f_ (w+1) 40)=some (.slice DA dn dc))) (fun w' hb=>⟨(Ah.o.below hb).2.1 0 _ rfl,(A8.o.below hb).2.1 38 _ HF.o.2.1,(A8.o.below hb).2.1 40 _ HF.o.2.2⟩);have Al:Below wr wr wr.drew:=Below.drew (b_);have Af:=q_ Al;obtain ⟨s0,s1,s2⟩:=KS.o wr.drew Al;clear Al Ad Ap Ao;go_wp2_with fail;go_region_held3 (fun w':World=>w'.cell? (a_ w)=some (.slice C q d)/\w'.cell? (f_ (w+1) 38)=some (.slice WA wn wc)/\w'.cell? (f_ (w+1) 40)=some (.slice DA dn dc))
  (first | (refine KS.o _ ?_;(first | (with_reducible exact Af.o) | (with_reducible exact A1) | (with_reducible exact A7));done) | exact KR.o)
  (first
   | (go_at_call 135;refine (Written_t (fun k=>X k\/(w<=k/\k<w+3)) (K+L+k) C q d L WA wn wc wr.drew (hC.o.up (Kp.of_below Af.o) (l_)) o_ (AO.o.up (Kp.of_below Af.o) (l_)) o_ (fun k hk=>by have:=A5.o k hk;have:(wr.drew:Nat)=wr:=rfl;omega)).mono ?_;rintro e S ⟨⟨C2,q2,d3,rfl,Ak⟩,hS⟩;have A7:Below wr wr S:=Af.o.trans hS;clear hS)
   | (go_at_call 134;refine (Reduced_t (fun k=>X k\/(w<=k/\k<w+3)) (K+L+k) C2 q2 d3 L DA dn dc S Ak.o o_ (Ay.o.up (Kp.of_below A7) (l_)) o_ (fun k hk=>by have:=A5.o k hk;have:=A7.size;omega)).mono ?_;rintro e R ⟨⟨C3,q3,d4,rfl,AS⟩,hR⟩;have A1:Below wr wr R:=A7.trans (hR.mono A7.size);clear hR;have KR:=h_ (((R.setCell ⟨w+1+1,0,none⟩ (.slice C3 q3 d4)).cell? (a_ w)=some (.slice C q d)/\(R.setCell ⟨w+1+1,0,none⟩ (.slice C3 q3 d4)).cell? (f_ (w+1) 38)=some (.slice WA wn wc)/\(R.setCell ⟨w+1+1,0,none⟩ (.slice C3 q3 d4)).cell? (f_ (w+1) 40)=some (.slice DA dn dc))) (⟨((Ah.o.below A1).far xt_ _).2.1 0 _ rfl,((A8.o.below A1).far wr_ _).2.1 38 _ HF.o.2.1,((A8.o.below A1).far wr_ _).2.1 40 _ HF.o.2.2⟩);have AF:=q_ (Ag.o.below A1);have AG:=q_ A1;have r0:=(Ag.o.below A1).2.1 0 _ rfl;have r1:=(Ag.o.below A1).2.2))
 go_wp2;refine retC results83 za_ underlying35 rfl k_ (cs:=[_]) (AF.o.set 0 _).whole rfl ?_;have hb:Below w w (R.setCell ⟨w+1+1,0,none⟩ (.slice C3 q3 d4)):=((HW.o.trans (Ai.o.below (B:=w) o_ (fun k hk h=>o_))).trans (AG.o.mono o_)).setCell y0_ _;exact ⟨⟨_,_,_,rfl,q_ ((AS.o.up ((Kp.refl _ R).setCell (.inl (.inr ⟨y0_,ws_⟩)) _) (show K+L+k<=K+2*L by omega)).kept (Kp.refl _ _) (fun k _ h h2=>h (.inl h2)) (l_))⟩,hb⟩
theorem mex_step (k:Nat) (hk:k<=2) (hE:∀ j,k=j+1->ExprOK j):ExprOK k:=by
 intro d b lp X w hM hz Ae;obtain ⟨W,hW,Ab,Ak,B0⟩:=af_ w [i_ 0,i_ 0,.string ⟨#[]⟩,i_ 0,.slice none 0 0] 209;have A6:=hM.below Ab;have A7:b<w:=hM.lt;obtain ⟨X1,A8⟩:∃ X1:NP,X1=fun q=>X q\/q=w:=⟨_,rfl⟩
 obtain ⟨Z1,Aa⟩:∃ Z1:NP,Z1=fun q=>Zm d b q\/q=w:=⟨_,rfl⟩
 have A2:=h_ (X1 w/\Z1 w) (⟨by rw [A8];exact .inr rfl,by rw [Aa];exact .inr rfl⟩);have Ad:InvR d b lp X1 Z1 w w (ay_ (k+1)) pE W:=⟨A6,.of_below Ab,fun q hq=>by rw [A8] at hq;rcases hq with hq | hq;(have:=Ae q hq;omega);omega,_,B0,vts_ex (SlP.nil _ _ _ _ _),pE_ex x_ x_ d_⟩;have hC:IC d b lp (x1 X1) (InvR d b lp X1 Z1 w w (ay_ (k+1)) pE):=InvR.ic (fun _ _ _ h=>h) (fun q hq=>by rw [A8];exact .inl (hz q hq)) (fun q hq=>by rw [Aa];exact .inl hq) hM.nz;have HC:=q_ hC;have A3:=h_ (∀ w',Mk d b lp w'->Kp (Zm d b) W w'->InvR d b lp X1 Z1 w w (ay_ (k+1)) pE w') (fun w' h1 h2=>hC.up W w' Ad h1 h2);have A0:=h_ (∀ (a:Act) (w2:World),InvR d b lp X1 Z1 w w (ay_ (k+1)) pE w2->a.defers=[]->a.tmps.getD 4 undef=.pointer (some (a_ w))->bodyPost prog f114 (fun e w'=>RE X (k+1) e w'/\Md d b lp w w') .ret a w2) (fun a w2 hI A1 ha=>by
  obtain ⟨cs,g1,g2,g3⟩:=hI.bx
  obtain ⟨kd,n,s,op,A,m,c,rfl,_⟩:=g2.expr
  refine retC results114 ha underlying209 rfl (cs:=exL kd n s op A m c) isz5 g1.whole A1 ⟨⟨_,_,_,_,_,_,_,rfl,q_ ⟨g2.less (fun q _ hq=>by rw [A8];exact .inl hq),g3⟩⟩,hI.ok,hI.kp.mono (fun q hq Af=>?_)⟩
  rw [Aa] at Af
  rcases Af with h | h
  ·exact h
  omega)
 have HE:=q_ hE;have c0:=A6.c0;have Al:=A6.lt;have HD:=q_ A6.dice;have Ag:=q_ A6;clear hM hz Ae B0 Ab A6 Ad hC Ak A8 Aa hE;go_enter func114,ntmps114;go_upto_region 1 with fail;rw [<-hW];clear hW;go_upto_region 2 with (go_at_call 26;refine (bn_ d 12 W HD.o d_ d_).mono ?_;rintro e w1 ⟨r,hr,rfl,ht,_⟩);have A5:=q_ (Ag.o.thrown ht);have A4:=q_ (ht.kp b);clear c0 Al ht;by_cases h4:r<4
 ·have Ah:(r:Int)<4:=by omega
  go_upto_region 3 with fail;refine be_ (X:=(x1 X1)) (Inv:=(InvR d b lp X1 Z1 w w (ay_ (k+1)) pE)) (ks:=fun i=>([(kV _ (pt b)),(kV _ (pt b)),(kV _ (pt b)),(kV _ (pt d)),(kNat _ 9),(kInt _),(kEx _ 0),(kAny _)]:List (SK (x1 X1))).getD i (kAny _)) k_ (A3.o _ A5.o A4.o) ?_ ?_
  ·intro i o ho a w hI hout hin
   match i,ho with
   | 0,ho=>cases ho;exact M0_
   | 1,ho=>cases ho;exact bz_ rfl H0_ hI
   | 2,ho=>cases ho;exact ca_ d_ rfl H1_ hI
   | 3,ho=>cases ho;exact bk_ HC.o rfl H2_ hI
   | 4,ho=>cases ho;exact bp_ (n:=9) HC.o rfl H3_ rfl d_ d_ hI
   | 5,ho=>cases ho;exact rk_sub (.inl rfl) rfl (cr_ (show (kNat _ 9).p w _ from H4_)) ⟨_,rfl⟩ hI
   | 6,ho=>cases ho;obtain ⟨q,hq⟩:=(show (kInt _).p w _ from H5_);exact rk_num HC.o rfl hq hI
   | 7,ho=>cases ho;exact dc_ (fun _ h=>h) A7 A2.o.1 A2.o.2 rfl (hout 4 d_) (bg_ (d':=k+1) o_ (show (kEx _ 0).p w _ from H6_)) hI
   | q+8,ho=>exact n_ ho
  exact vs_
 have Ah:¬(r:Int)<4:=by omega
 by_cases h8:r<8
 ·have Aj:(r:Int)<8:=by omega
  go_upto_region 5 with fail;refine dl_ (X:=(x1 X1)) (Inv:=(InvR d b lp X1 Z1 w w (ay_ (k+1)) pE)) (ks:=fun i=>([(bs_ _ 5),(kV _ (pt b)),(kV _ (pt b)),(kV _ (pt b)),(kV _ (pt d)),(bs_ _ 5),(kV _ (i_ (5:Nat))),(kNat _ 5),(df_ _),(kStr _),(kEx _ 0),(kAny _)]:List (SK (x1 X1))).getD i (kAny _)) rfl k_ (A3.o _ (A5.o.below (Below.drew (b_))) (A4.o.bb_ (Below.drew (b_)))) ?_ ?_
  ·intro i o ho a w hI hout hin
   match i,ho with
   | 0,ho=>cases ho;exact rk_names HC.o rfl hI
   | 1,ho=>cases ho;exact M0_
   | 2,ho=>cases ho;exact bz_ rfl H1_ hI
   | 3,ho=>cases ho;exact ca_ d_ rfl H2_ hI
   | 4,ho=>cases ho;exact bk_ HC.o rfl H3_ hI
   | 5,ho=>cases ho;exact rk_names HC.o rfl hI
   | 6,ho=>cases ho;exact rk_len rfl (show (bs_ _ 5).p w _ from H5_) hI
   | 7,ho=>cases ho;exact bp_ (n:=5) HC.o rfl H4_ H6_ d_ d_ hI
   | 8,ho=>cases ho;exact rk_idx (n:=5) rfl (show (bs_ _ 5).p w _ from H0_) (show (kNat _ 5).p w _ from H7_) hI
   | 9,ho=>cases ho;exact eg_ rfl (show (df_ _).p w _ from H8_) hI
   | 10,ho=>cases ho;exact eh_ HC.o rfl (show (kStr _).p w _ from H9_) hI
   | 11,ho=>cases ho;exact dc_ (fun _ h=>h) A7 A2.o.1 A2.o.2 rfl (hout 4 d_) (bg_ (d':=k+1) o_ (show (kEx _ 0).p w _ from H10_)) hI
   | q+12,ho=>exact n_ ho
  exact vs_
 have Aj:¬(r:Int)<8:=by omega
 cases k with
 | zero =>
  go_upto_region 5 with fail;refine dl_ (X:=(x1 X1)) (Inv:=(InvR d b lp X1 Z1 w w (ay_ (0+1)) pE)) (ks:=fun i=>([(bs_ _ 5),(kV _ (pt b)),(kV _ (pt b)),(kV _ (pt b)),(kV _ (pt d)),(bs_ _ 5),(kV _ (i_ (5:Nat))),(kNat _ 5),(df_ _),(kStr _),(kEx _ 0),(kAny _)]:List (SK (x1 X1))).getD i (kAny _)) rfl k_ (A3.o _ (A5.o.below (Below.drew (b_))) (A4.o.bb_ (Below.drew (b_)))) ?_ ?_
  ·intro i o ho a w hI hout hin
   match i,ho with
   | 0,ho=>cases ho;exact rk_names HC.o rfl hI
   | 1,ho=>cases ho;exact M0_
   | 2,ho=>cases ho;exact bz_ rfl H1_ hI
   | 3,ho=>cases ho;exact ca_ d_ rfl H2_ hI
   | 4,ho=>cases ho;exact bk_ HC.o rfl H3_ hI
   | 5,ho=>cases ho;exact rk_names HC.o rfl hI
   | 6,ho=>cases ho;exact rk_len rfl (show (bs_ _ 5).p w _ from H5_) hI
   | 7,ho=>cases ho;exact bp_ (n:=5) HC.o rfl H4_ H6_ d_ d_ hI
   | 8,ho=>cases ho;exact rk_idx (n:=5) rfl (show (bs_ _ 5).p w _ from H0_) (show (kNat _ 5).p w _ from H7_) hI
   | 9,ho=>cases ho;exact eg_ rfl (show (df_ _).p w _ from H8_) hI
   | 10,ho=>cases ho;exact eh_ HC.o rfl (show (kStr _).p w _ from H9_) hI
   | 11,ho=>cases ho;exact dc_ (fun _ h=>h) A7 A2.o.1 A2.o.2 rfl (hout 4 d_) (bg_ (d':=0+1) o_ (show (kEx _ 0).p w _ from H10_)) hI
   | q+12,ho=>exact n_ ho
  exact vs_
 | succ k =>
 have Ac:=q_ (HE.o k rfl);have An:¬((k+1:Nat):Int)=0:=by omega
 by_cases h88:r=8
 ·subst h88;go_upto_region 7 with fail;refine dl_ (X:=(x1 X1)) (Inv:=(InvR d b lp X1 Z1 w w (ay_ ((k+1)+1)) pE)) (ks:=fun i=>([(kV _ (pt b)),(kV _ (pt b)),(kV _ (pt b)),(kV _ (pt d)),(kNat _ 3),(bs_ _ 2),(kV _ (pt b)),(kV _ (pt b)),(kV _ (pt b)),(kV _ (pt d)),(kNat _ 2),(df_ _),(kStr _),(kEx _ 0),(kExs _ 0 1),(kEx _ 1),(kAny _)]:List (SK (x1 X1))).getD i (kAny _)) rfl k_ (A3.o _ (A5.o.below (Below.drew (b_))) (A4.o.bb_ (Below.drew (b_)))) ?_ ?_
  ·intro i o ho a w hI hout hin
   match i,ho with
   | 0,ho=>cases ho;exact M0_
   | 1,ho=>cases ho;exact bz_ rfl H0_ hI
   | 2,ho=>cases ho;exact ca_ d_ rfl H1_ hI
   | 3,ho=>cases ho;exact bk_ HC.o rfl H2_ hI
   | 4,ho=>cases ho;exact bp_ (n:=3) HC.o rfl H3_ rfl d_ d_ hI
   | 5,ho=>cases ho;exact rk_bst2 HC.o rfl d_ d_ hI
   | 6,ho=>cases ho;exact M0_
   | 7,ho=>cases ho;exact bz_ rfl H6_ hI
   | 8,ho=>cases ho;exact ca_ d_ rfl H7_ hI
   | 9,ho=>cases ho;exact bk_ HC.o rfl H8_ hI
   | 10,ho=>cases ho;exact bp_ (n:=2) HC.o rfl H9_ rfl d_ d_ hI
   | 11,ho=>cases ho;exact rk_idx (n:=2) rfl (show (bs_ _ 2).p w _ from H5_) (show (kNat _ 2).p w _ from H10_) hI
   | 12,ho=>cases ho;exact eg_ rfl (show (df_ _).p w _ from H11_) hI
   | 13,ho=>cases ho;exact eh_ HC.o rfl (show (kStr _).p w _ from H12_) hI
   | 14,ho=>cases ho;exact dq_ HC.o rfl (show (kEx _ 0).p w _ from H13_) hI
   | 15,ho=>cases ho;exact rk_be3 rfl (cr_ (show (kNat _ 3).p w _ from H4_)) (show (kExs _ 0 1).p w _ from H14_) hI
   | 16,ho=>cases ho;exact dc_ (fun _ h=>h) A7 A2.o.1 A2.o.2 rfl (hout 4 d_) (bg_ (d':=(k+1)+1) o_ (show (kEx _ 1).p w _ from H15_)) hI
   | q+17,ho=>exact n_ ho
  exact vs_
 have Ai:¬(r:Int)=8:=by omega
 by_cases h9:r=9
 ·subst h9;go_upto_region 9 with fail;refine be_ (X:=(x1 X1)) (Inv:=(InvR d b lp X1 Z1 w w (ay_ ((k+1)+1)) pE)) (ks:=fun i=>([(kV _ (pt b)),(kV _ (pt b)),(kV _ (pt b)),(kV _ (pt d)),(kNat _ 4),(kEx _ 0),(kAny _)]:List (SK (x1 X1))).getD i (kAny _)) k_ (A3.o _ A5.o A4.o) ?_ ?_
  ·intro i o ho a w hI hout hin
   match i,ho with
   | 0,ho=>cases ho;exact M0_
   | 1,ho=>cases ho;exact bz_ rfl H0_ hI
   | 2,ho=>cases ho;exact ca_ d_ rfl H1_ hI
   | 3,ho=>cases ho;exact bk_ HC.o rfl H2_ hI
   | 4,ho=>cases ho;exact bp_ (n:=4) HC.o rfl H3_ rfl d_ d_ hI
   | 5,ho=>cases ho;exact rk_be1 rfl d_ (cr_ (show (kNat _ 4).p w _ from H4_)) hI
   | 6,ho=>cases ho;exact dc_ (fun _ h=>h) A7 A2.o.1 A2.o.2 rfl (hout 4 d_) (bg_ (d':=(k+1)+1) o_ (show (kEx _ 0).p w _ from H5_)) hI
   | q+7,ho=>exact n_ ho
  exact vs_
 have Am:¬(r:Int)=9:=by omega
 go_upto_region 10 with fail;refine be_ (X:=(x1 X1)) (Inv:=(InvR d b lp X1 Z1 w w (ay_ ((k+1)+1)) pE)) (ks:=fun i=>([(kV _ (pt b)),(kV _ (pt b)),(kV _ (pt b)),(kV _ (pt d)),(kNat _ 11),(kInt _),(kV _ (pt b)),(kV _ (i_ ((k)+1:Nat))),(kV _ (i_ (k:Nat))),(kEx _ (k+1)),(kV _ (pt b)),(kV _ (i_ ((k)+1:Nat))),(kV _ (i_ (k:Nat))),(kEx _ (k+1)),(kEx _ ((k+1)+1)),(kAny _)]:List (SK (x1 X1))).getD i (kAny _)) k_ (A3.o _ A5.o A4.o) ?_ ?_
 ·intro i o ho a w hI hout hin
  match i,ho with
  | 0,ho=>cases ho;exact M0_
  | 1,ho=>cases ho;exact bz_ rfl H0_ hI
  | 2,ho=>cases ho;exact ca_ d_ rfl H1_ hI
  | 3,ho=>cases ho;exact bk_ HC.o rfl H2_ hI
  | 4,ho=>cases ho;exact bp_ (n:=11) HC.o rfl H3_ rfl d_ d_ hI
  | 5,ho=>cases ho;exact rk_add (.inl rfl) rfl ⟨_,rfl⟩ (cr_ (show (kNat _ 11).p w _ from H4_)) hI
  | 6,ho=>cases ho;exact M0_
  | 7,ho=>cases ho;exact bl_ (.inl rfl) (show (kV _ (i_ ((k)+1:Nat))).p w _ from (hout 1 d_)) hI
  | 8,ho=>cases ho;exact rk_dec (n:=k) rfl H7_ o_ hI
  | 9,ho=>cases ho;exact ch_ (k:=k) HC.o Ac.o rfl H6_ H8_ hI
  | 10,ho=>cases ho;exact M0_
  | 11,ho=>cases ho;exact bl_ (.inl rfl) (show (kV _ (i_ ((k)+1:Nat))).p w _ from (hout 1 d_)) hI
  | 12,ho=>cases ho;exact rk_dec (n:=k) rfl H11_ o_ hI
  | 13,ho=>cases ho;exact ch_ (k:=k) HC.o Ac.o rfl H10_ H12_ hI
  | 14,ho=>cases ho;exact rk_bin HC.o rfl (show (kInt _).p w _ from H5_) (show (kEx _ (k+1)).p w _ from H9_) (show (kEx _ (k+1)).p w _ from H13_) hI
  | 15,ho=>cases ho;exact dc_ (fun _ h=>h) A7 A2.o.1 A2.o.2 rfl (hout 4 d_) (show (kEx _ ((k+1)+1)).p w _ from H14_) hI
  | q+16,ho=>exact n_ ho
 exact vs_
theorem results_tmp3' {P:Program} {fn:Func} {t u s:Tmp} (h:fn.results=#[.tmp t,.tmp u,.tmp s]) (tmps:Array Value) (w:World) :
  (results fn tmps).run P w=.ok (.tuple #[tmps.getD t undef,tmps.getD u undef,tmps.getD s undef]) w:=by
 simp [results,h]
def RMe (e:Ending):Prop:=∃ (a b:Int) (k:Bool),e=.returned (.tuple #[i_ a,i_ b,.bool k])
structure StC (w:World) (A:OA) (k:Nat) (kd:Int) (s f:ByteArray) (n op:Int) (E B C:OA) (m c m1 c1 m2 c2:Nat) (g o:Nat):Prop where
 hA:A=some (f_ g o)
 lt:g<w
 k0:w.cell? ⟨g,o+k*8,none⟩=some (i_ kd)
 k1:w.cell? ⟨g,o+k*8+1,none⟩=some (.string s)
 k2:w.cell? ⟨g,o+k*8+2,none⟩=some (.string f)
 k3:w.cell? ⟨g,o+k*8+3,none⟩=some (i_ n)
 k4:w.cell? ⟨g,o+k*8+4,none⟩=some (i_ op)
 k5:w.cell? ⟨g,o+k*8+5,none⟩=some (.slice E m c)
 k6:w.cell? ⟨g,o+k*8+6,none⟩=some (.slice B m1 c1)
 k7:w.cell? ⟨g,o+k*8+7,none⟩=some (.slice C m2 c2)
theorem StC.up {w w':World} {A:OA} {k:Nat} {kd:Int} {s f:ByteArray} {n op:Int} {E B C:OA} {m c m1 c1 m2 c2 g o:Nat} (h:StC w A k kd s f n op E B C m c m1 c1 m2 c2 g o) (hb:Below w w w'):StC w' A k kd s f n op E B C m c m1 c1 m2 c2 g o:=by
 have hc:∀ j,w'.cell? (f_ g j)=w.cell? (f_ g j):=fun j=>belc hb h.lt
 exact ⟨h.hA,lt_ h.lt hb.size,(hc _).trans h.k0,(hc _).trans h.k1,(hc _).trans h.k2,(hc _).trans h.k3,(hc _).trans h.k4,(hc _).trans h.k5,(hc _).trans h.k6,(hc _).trans h.k7⟩
theorem StC.of {w:World} {A:OA} {k g o:Nat} {kd:Int} {s f:ByteArray} {n op:Int} {E B C:OA} {m c m1 c1 m2 c2:Nat} (hA:A=some (f_ g o)) (hg:g<w) (hc:∀ j u,([i_ kd,.string s,.string f,i_ n,i_ op,.slice E m c,.slice B m1 c1,.slice C m2 c2]:VL)[j]?=some u->w.cell? ⟨g,o+k*8+j,none⟩=some u):StC w A k kd s f n op E B C m c m1 c1 m2 c2 g o :=
 ⟨hA,hg,hc 0 _ rfl,hc 1 _ rfl,hc 2 _ rfl,hc 3 _ rfl,hc 4 _ rfl,hc 5 _ rfl,hc 6 _ rfl,hc 7 _ rfl⟩
theorem SlP.st {d:Nat} {X:NP} {w:World} {K:Nat} {A:OA} {n c k:Nat} (h:SlP w X K pS (ah_ d) A n c) (hk:k<n):∃ (kd:Int) (s f:ByteArray) (nn op:Int) (E B C:OA) (m c m1 c1 m2 c2 g o:Nat),StC w A k kd s f nn op E B C m c m1 c1 m2 c2 g o/\SlP w X K pE (ay_ dE) E m c/\(s.size<=100/\f.size<=100)/\¬X g/\(kd=5->2<=m)/\(kd=6->1<=m)/\(kd=3->f=nameF\/f=nameG) ∧
  (d=0->m1=0/\m2=0)/\∀ d',d=d'+1->SlP w X K pS (ah_ d') B m1 c1/\SlP w X K pS (ah_ d') C m2 c2:=by
 obtain ⟨g,o,us,hA,hg,hX,hu,⟨kd,s,f,nn,op,E,B,C,m,c',m1,c1,m2,c2,rfl,p1,p2,p3,p4,p5⟩,hc⟩:=h.el hk;rw [by_] at hc;cases d with
 | zero =>
  obtain ⟨A0,s',f',n',A1,A',B',C',m',q',x1,x2,e,h1,h2,h3⟩:=hu.stmt0;injection e with e0 e;injection e with e1 e;injection e with e2 e;injection e with e3 e;injection e with e4 e;injection e with e5 e;injection e with e6 e;injection e with e7 e;injection e5 with a1 a2 a3;injection e6 with b1 b2 b3;injection e7 with d1 d2 d3;subst a1 a2 a3;exact ⟨kd,s,f,nn,op,E,B,C,m,c',m1,c1,m2,c2,g,o,StC.of hA hg hc,h1,⟨p4,p5⟩,hX,p1,p2,p3,fun _=>⟨b2,d2⟩,fun d' e=>by cases e⟩
 | succ d =>
  obtain ⟨A0,s',f',n',A1,A',B',C',m',q',x1,y1,x2,y2,e,h1,h2,h3⟩:=hu.stmt;injection e with e0 e;injection e with e1 e;injection e with e2 e;injection e with e3 e;injection e with e4 e;injection e with e5 e;injection e with e6 e;injection e with e7 e;injection e5 with a1 a2 a3;injection e6 with b1 b2 b3;injection e7 with d1 d2 d3;subst a1 a2 a3 b1 b2 b3 d1 d2 d3;exact ⟨kd,s,f,nn,op,E,B,C,m,c',m1,c1,m2,c2,g,o,StC.of hA hg hc,h1,⟨p4,p5⟩,hX,p1,p2,p3,x_,fun d' e=>by injection e with e;subst e;exact ⟨h2,h3⟩⟩
theorem en_ (X:NP) (K:Nat) (hK:K<=900000000) (A:OA) (n c:Nat) (w:World) (hn:n<=900000000)
  (hk:∀ k,k<n->∃ (kd:Int) (s f:ByteArray) (nn op:Int) (E B C:OA) (m c m1 c1 m2 c2 g o:Nat),StC w A k kd s f nn op E B C m c m1 c1 m2 c2 g o/\SlP w X K pE (ay_ dE) E m c/\(s.size<=100/\f.size<=100) ∧
   ∀ w':World,Below w w w'->(Calls prog 187 #[.slice B m1 c1] w' fun e w''=>RMe e/\Below w' w' w'')/\Calls prog 187 #[.slice C m2 c2] w' fun e w''=>RMe e/\Below w' w' w'') :
  Calls prog 187 #[.slice A n c] w fun e w'=>RMe e/\Below w w w':=by
 have HK:=q_ hk;clear hk;go_enter func187,ntmps187;go_upto_region 3 with fail;go_loopw [5,6,17] (fun a b i wr=>∃ (k:Nat) (p q:Int),k<=n/\a=i_ p/\b=i_ q/\i=i_ k/\Hid (Below w w wr)) (fun _ _ i _=>n - (intOf i).toNat)
 case atStart=>exact ⟨0,0,0,o_,rfl,rfl,rfl,q_ (b_)⟩
 obtain ⟨k,p,q,A8,rfl,rfl,rfl,HR⟩:=hrel;have A6:(w:Nat)<=wr:=HR.o.size;by_cases hlt:k<n
 ·have A2:(k:Int)<(n:Int):=by omega
  obtain ⟨kd,s,f,nn,op,E,B,C,m,c',m1,c1,m2,c2,g,o,A5,hE,hsz,A1⟩:=HK.o k hlt;obtain ⟨rfl,hg,k0,k1,k2,k3,k4,k5,k6,k7⟩:=A5.up HR.o;obtain ⟨V,hV,A4,A7,B0⟩:=af_ wr [i_ kd,.string s,.string f,i_ nn,i_ op,.slice E m c',.slice B m1 c1,.slice C m2 c2] 212;have A0:=q_ (HR.o.trans (A4.mono A6));have KC:=h_ (∀ w',Below V V w'->(w'.cell? (a_ wr)=some (i_ kd)/\w'.cell? (f_ wr 1)=some (.string s)/\w'.cell? (f_ wr 2)=some (.string f)/\w'.cell? (f_ wr 3)=some (i_ nn)/\w'.cell? (f_ wr 4)=some (i_ op)/\w'.cell? (f_ wr 5)=some (.slice E m c')/\w'.cell? (f_ wr 6)=some (.slice B m1 c1)/\w'.cell? (f_ wr 7)=some (.slice C m2 c2))) (fun w' hb =>
   ⟨(B0.below hb).2.1 0 _ rfl,(B0.below hb).2.1 1 _ rfl,(B0.below hb).2.1 2 _ rfl,(B0.below hb).2.1 3 _ rfl,(B0.below hb).2.1 4 _ rfl,(B0.below hb).2.1 5 _ rfl,(B0.below hb).2.1 6 _ rfl,(B0.below hb).2.1 7 _ rfl⟩)
  have HE:=q_ hE;have HS:=q_ hsz;have A3:=q_ A1;clear B0 A4 A5 hE hsz A1;go_upto_region 5 with fail;rw [<-hV];clear hV k0 k1 k2 k3 k4 k5 k6 k7;obtain ⟨x0,x1,x2,x3,x4,x5,x6,x7⟩:=KC.o V (b_);go_wp2_with fail;refine (statement_step kd s f nn op E B C m c' m1 c1 m2 c2 X K hK dE V (HE.o.below A0.o) HS.o).mono ?_;rintro e W1 ⟨⟨b,rfl⟩,hB⟩;have H1:=q_ hB;clear x0 x1 x2 x3 x4 x5 x6 x7 hB;obtain ⟨x0,x1,x2,x3,x4,x5,x6,x7⟩:=KC.o W1 H1.o;cases b
  case false =>
   go_wp2;try simp only [Exit.inBlock,Exit.then]
   refine bodyPost_ret (results_tmp3' za_ _ _) rfl ?_;exact ⟨⟨_,_,_,rfl⟩,A0.o.trans (H1.o.mono A0.o.size)⟩
  case true =>
  go_wp2_with fail;refine (A3.o W1 (A0.o.trans (H1.o.mono A0.o.size))).1.mono ?_;rintro e W2 ⟨⟨a1,b1,o1,rfl⟩,hB⟩;have H2:=q_ (H1.o.trans (hB.mono H1.o.size));clear x0 x1 x2 x3 x4 x5 x6 x7 hB;obtain ⟨x0,x1,x2,x3,x4,x5,x6,x7⟩:=KC.o W2 H2.o;go_wp2_with fail;refine (A3.o W2 (A0.o.trans (H2.o.mono A0.o.size))).2.mono ?_;rintro e W3 ⟨⟨a2,b2,o2,rfl⟩,hB⟩;have H3:=q_ (H2.o.trans (hB.mono H2.o.size));clear x0 x1 x2 x3 x4 x5 x6 x7 hB;cases o1 <;> cases o2
  all_goals
   go_wp2;first
    | (try simp only [Exit.inBlock,Exit.then]
       refine bodyPost_ret (results_tmp3' za_ _ _) rfl ?_
       exact ⟨⟨_,_,_,rfl⟩,A0.o.trans (H3.o.mono A0.o.size)⟩)
    | (go_roundw
       case rel=>exact ⟨k+1,_,_,o_,rfl,rfl,zb_,q_ (A0.o.trans (H3.o.mono A0.o.size))⟩
       case measure=>exact me_)
 have A2:¬(k:Int)<(n:Int):=by omega
 go_wp2;try simp only [Exit.inBlock,Exit.then]
 refine bodyPost_ret (results_tmp3' za_ _ _) rfl ?_;exact ⟨⟨_,_,_,rfl⟩,HR.o⟩
theorem measure_any (X:NP) (K:Nat) (hK:K<=900000000):∀ (d:Nat) (A:OA) (n c:Nat) (w:World),SlP w X K pS (ah_ d) A n c->Calls prog 187 #[.slice A n c] w fun e w'=>RMe e/\Below w w w'
 | 0,A,n,c,w,h=>by
  refine en_ X K hK A n c w (Nat.le_trans h.sl.le hK) (fun k hk=>?_);obtain ⟨kd,s,f,nn,op,E,B,C,m,c',m1,c1,m2,c2,g,o,h1,h2,h3,_,_,_,_,h0,_⟩:=h.st hk;obtain ⟨rfl,rfl⟩:=h0 rfl;exact ⟨kd,s,f,nn,op,E,B,C,m,c',0,c1,0,c2,g,o,h1,h2,h3,fun w' hb=>⟨en_ X K hK B 0 c1 w' o_ (fun k hk=>o_),en_ X K hK C 0 c2 w' o_ (fun k hk=>o_)⟩⟩
 | d+1,A,n,c,w,h=>by
  refine en_ X K hK A n c w (Nat.le_trans h.sl.le hK) (fun k hk=>?_);obtain ⟨kd,s,f,nn,op,E,B,C,m,c',m1,c1,m2,c2,g,o,h1,h2,h3,_,_,_,_,_,hd⟩:=h.st hk;exact ⟨kd,s,f,nn,op,E,B,C,m,c',m1,c1,m2,c2,g,o,h1,h2,h3,fun w' hb=>⟨measure_any X K hK d B m1 c1 w' ((hd d rfl).1.below hb),measure_any X K hK d C m2 c2 w' ((hd d rfl).2.below hb)⟩⟩
end Go.Proofs.YtfolidlmgfhkiaaGreat
namespace Go.Proofs.YtfolidlmgfhkiaaGreat
open Go.RowKit Go.Proofs.Tryz
def row48 (w:World) (b o:Nat):Array Value:=((List.range 48).map fun j=>(w.cell? ⟨b,o+j,none⟩).getD undef).toArray
def row48V (w:World):Value->Array Value
 | .pointer (some ⟨b,o,none⟩)=>row48 w b o
 | _=>#[]
def There48 (w:World) (v:Value):Prop:=∃ b o,∃ vs:VL,v=.pointer (some (f_ b o))/\vs.length=48/\w.rangeAt b o vs
theorem row48_at {w:World} {b o:Nat} {vs:VL} (hl:vs.length=48) (h:w.rangeAt b o vs):row48 w b o=vs.toArray:=by
 unfold row48
 congr 1
 apply List.ext_getElem?;intro j;by_cases hj:j<48
 ·exact u2_
 rw [List.getElem?_eq_none zp_,List.getElem?_eq_none o_]
theorem exec48 (ρ:Operand->Value) (x:Operand) (d:Option Nat) (ty:TypeId) (pos:String) (af:Array Edge) (gd:Option (Nat × Bool)) (w:World) (h:There48 w (ρ x)) :
  Sem.run prog (execOp ρ { dst:=d,op:=.load 65 x,type:=ty,pos:=pos,after:=af,guard:=gd }) w=.ok (.value (.agg (row48V w (ρ x)))) w:=by
 obtain ⟨b,o,vs,hv,hl,ht⟩:=h;have h1:=run_loadAt_mid (P:=prog) w b o _ vs _ ht underlying65 rfl (by rw [hl];kernel_rfl);unfold execOp;simp only [hv,Sem.run_bind,h1,Result.andThen_ok,Sem.run_pure,row48V,row48_at hl ht]
attribute [local go_sem ↓] exec48
end Go.Proofs.YtfolidlmgfhkiaaGreat
namespace Go.Proofs.YtfolidlmgfhkiaaGreat
open Go.RowKit Go.Proofs.Tryz
theorem Visible_t (X:NP) (K:Nat) (A:OA) (n c:Nat) (L:Nat) (vs:VL) (w:World) (h:SlT w X K objT A n c) (hK:K<=1000000000000) (ht:VTs w X L ae_ vs) (hL:L<=1000000000000) (hX:∀ k,X k->k<w) :
  Calls prog 86 #[.agg vs.toArray,.agg #[.slice A n c]] w fun e w'=>RH X (K+2*L) e w'/\Below w w w':=by
 obtain ⟨i0,Bc,Be,Bf,Bg⟩:=info_parts infoOb;obtain ⟨NA,nn,nc,Ad,A5⟩:=ht.slc (j:=39) (e:=objT) rfl;obtain ⟨WA,wn,wc,Ac,Ag⟩:=ht.slc (j:=38) (e:=ap_) rfl;obtain ⟨DA,dn,dc,Ae,Ab⟩:=ht.slc (j:=40) (e:=bj_) rfl;have Bi:(prog.info? 65).map (·.size)=some vs.length:=by rw [ht.1];kernel_rfl
 obtain ⟨W,hW,A3,Ba,B0,B1,B2⟩:=ei_ w vs 65 [.slice A n c] 35 [.slice none 0 0] 35;have A6:∀ k,k<w.heap.size->¬X k->¬(X k\/(w.heap.size<=k/\k<w.heap.size+3)):=fun k hk h1 h2=>by rcases h2 with h2 | h2;exact h1 h2;omega
 have H:=q_ (h.kept (Y:=fun k=>X k\/(w<=k/\k<w+3)) (Kp.of_below A3) A6 (Nat.le_refl K));have HT:=q_ (ht.kept (Y:=fun k=>X k\/(w<=k/\k<w+3)) (Kp.of_below A3) A6 (Nat.le_refl L));have HN:=q_ (A5.kept (Y:=fun k=>X k\/(w<=k/\k<w+3)) (Kp.of_below A3) A6 (Nat.le_refl L));have Ay:=q_ (Ag.kept (Y:=fun k=>X k\/(w<=k/\k<w+3)) (Kp.of_below A3) A6 (Nat.le_refl L));have Aw:=q_ (Ab.kept (Y:=fun k=>X k\/(w<=k/\k<w+3)) (Kp.of_below A3) A6 (Nat.le_refl L));have HW:=q_ A3;have Am:=q_ B0;have Av:=q_ B2;have Bk:=h.le;have Bd:=A5.le;have Ao:=h_ (∀ k,(X k\/(w<=k/\k<w+3))->k<W) (fun k hk=>by rcases hk with hk | hk;have:=hX k hk;omega;omega);have AD:(w:Nat)+3=W:=by omega
 have AA:=q_ AD;have HF:=q_ (And.intro Ad (And.intro Ac Ae));have c1:=B1.2.1 0 _ rfl;clear A6 h ht hX B0 B1 B2 A3 Ba A5 Ag Ab AD Ad Ac Ae;go_enter func86,ntmps86;go_upto_region 1 with fail;rw [<-hW];clear hW;go_wp2_with (with_reducible refine ac_ rfl 65 (.tmp 2) rfl _ underlying65 rfl v_ Am.o.whole Bi ?_);refine (before_t (fun k=>X k\/(w.heap.size<=k/\k<w.heap.size+3)) K A n c L vs W H.o hK HT.o hL Ao.o).mono ?_;rintro e Y ⟨⟨C,q,d,rfl,hC⟩,hY⟩;obtain ⟨V,hV,Ar,B9,V0⟩:=af_ Y [.slice C q d] 35;have Bb:=hY.size;have zW:=AA.o;have A2:Below W.heap.size W V:=hY.trans (Ar.mono hY.size);have Ai:∀ k,k<W.heap.size->¬(X k\/(w.heap.size<=k/\k<w.heap.size+3))->¬(X k\/(w.heap.size<=k/\k<w.heap.size+3)\/k=Y.heap.size):=fun k hk h1 h2=>by rcases h2 with h2 | h2 | h2;exact h1 (.inl h2);exact h1 (.inr h2);omega
 have AF:=q_ (hC.o.kept (Y:=fun k=>X k\/(w<=k/\k<w+3)\/k=Y) (Kp.of_below Ar) (fun k hk h1 h2=>by rcases h2 with h2 | h2 | h2;exact h1 (.inl h2);exact h1 (.inr h2);omega) (Nat.le_refl K));have Bh:=hC.o.le;have AL:=q_ (HN.o.kept (Y:=fun k=>X k\/(w<=k/\k<w+3)\/k=Y) (Kp.of_below A2) Ai (Nat.le_refl L));have AZ:=q_ (Ay.o.kept (Y:=fun k=>X k\/(w<=k/\k<w+3)\/k=Y) (Kp.of_below A2) Ai (Nat.le_refl L));have AH:=q_ (Aw.o.kept (Y:=fun k=>X k\/(w<=k/\k<w+3)\/k=Y) (Kp.of_below A2) Ai (Nat.le_refl L));have AX:=q_ (Am.o.below A2);have AW:=q_ (Av.o.below A2);have AY:=q_ V0;have An:=q_ A2;have A8:=h_ (∀ k,(X k\/(w<=k/\k<w+3)\/k=Y)->k<V) (fun k hk=>by rcases hk with hk | hk | hk;have:=Ao.o k (.inl hk);omega;omega;omega);have Az:=q_ (show (Y:Nat)<V by omega);clear hC hY Ar B9 A2 Ai c1 H HT HN Ay Aw Am Av Ao;go_upto_region 2 with fail;rw [<-hV];clear hV;have v0:=V0.2.1 0 _ rfl;have v1:=V0.2.2;clear V0;have HA:=h_ (SlT V (Wi (fun k=>X k\/(w<=k/\k<w+3)\/k=Y) (Value.slice none 0 0).ownBlock) K objT C q d) (AF.o.kept (Kp.refl _ _) (fun k _ h h2=>by rcases h2 with h2 | h2;exact h h2;cases h2) (Nat.le_refl K));go_upto_region 3 with (at_builtin;refine ao_ rfl _ _ 33 rfl V 90 i0 _ 32 objT (fun k=>X k\/(w<=k/\k<w+3)\/k=Y) K underlying33 Bc Be Bf Bg rfl d_ none 0 0 zc_ (OwT.nil _ _ _ _ _ _) C q d zc_ HA.o A8.o m_ o_ (l_) ?_;intro A4 c4 w4 o4 g4 l4;rw [Nat.zero_add] at o4 l4 ⊢;have b4:Below V V w4:=aj_ g4 (l_) (fun k hk=>by cases hk);have O4:=q_ (o4.slT A8.o Bh);have BX:=q_ (AY.o.below b4);have m0:=BX.o.2.1 0 _ rfl;have m1:=BX.o.2.2;have B4:=q_ b4;clear o4 l4 g4 v0 v1 b4);obtain ⟨U,hU⟩:=ex_ (w4.setCell (a_ Y) (.slice A4 q c4));have AJ:=h_ (Kp (fun k=>k=Y) V U) (by rw [hU];exact (show Kp (fun k=>k=Y) V w4 from Kp.of_below B4.o).setCell (p:=(a_ Y)) (.inl rfl) _);have AT:=h_ (SlT U (fun k=>X k\/(w<=k/\k<w+3)\/k=Y) (K+L) objT A4 q c4) (by rw [hU];exact O4.o.up ((Kp.refl _ w4).setCell (p:=(a_ Y)) (.inl (.inr (.inr rfl))) _) o_);have AV:=h_ (Bx U Y [.slice A4 q c4]) wq_;have Ax:=h_ (Bx U w vs) (by rw [hU];exact (AX.o.below B4.o).far (by show (Y:Nat)≠w;omega) _);have AU:=h_ (Bx U (w+2) [.slice none 0 0]) (by rw [hU];exact (AW.o.below B4.o).far (by show (Y:Nat)≠w+2;omega) _);rw [<-hU];have Bj:=Ax.o.2.1 39 _ HF.o.1;clear hU m0 m1;have A7:=q_ (show (w:Nat)+3<=Y by omega);clear Bb zW;go_upto_region 4 with fail;clear Bj;go_loopw [18] (fun i wr=>∃ (k:Nat) (D:OA) (u d:Nat),k<=nn/\i=i_ k/\Hid (SlT wr (fun k=>X k\/(w<=k/\k<w+3)\/k=Y) (K+L+k) objT D u d)/\Hid (Bx wr Y [.slice D u d])/\Hid (Bx wr w vs)/\Hid (Bx wr (w+2) [.slice none 0 0])/\Hid (Kp (fun k=>k=Y) V wr)) (fun i _=>nn - (intOf i).toNat)
 case atStart=>exact ⟨0,A4,q,c4,o_,rfl,AT,AV,Ax,AU,AJ⟩
 obtain ⟨k,D,u,d,hk,rfl,hC,Ak,Aa,Aj,Al⟩:=hrel;have Bm:=Al.o.size;have Af:Kp (fun k=>X k\/(w<=k/\k<w+3)\/k=Y) V wr:=Al.o.mono (fun k _ h=>.inr (.inr h));by_cases hlt:k<nn
 ·have Au:(k:Int)<(nn:Int):=by omega
  obtain ⟨g,o,rfl,hg,x,AB,AC,hx⟩:=(AL.o.up Af (Nat.le_refl L)).obj_at hlt;obtain ⟨c4,c5⟩:=hx wr (b_);obtain ⟨S,hS,A0,B8,S0⟩:=af_ wr [i_ x.id,.slice x.A x.n x.c] 90;have v0:=S0.2.1 0 _ rfl;have v1:=S0.2.1 1 _ rfl;have c8:=(Ak.o.below A0).2.1 0 _ rfl;have AS:=q_ (Ak.o.below A0);have AR:=q_ (Aa.o.below A0);have AQ:=q_ (Aj.o.below A0);have AE:=q_ (hC.o.up (Kp.of_below A0) (l_));have AI:=q_ (Al.o.trans (.of_below A0));have AM:=q_ (AB.up (Kp.of_below A0) (show L<=K+L+k by omega));have AN:=q_ (AC.up A0);have Bl:=A0.size;clear hx AB AC Af A0 B8 S0;go_upto_region 6 with fail;rw [<-hS];clear hS c4 c5;go_wp2_with fail;refine (Put_t (fun k=>X k\/(w<=k/\k<w+3)\/k=Y) (K+L+k) D u d x S AE.o AM.o AN.o o_ (fun k hk=>by have:=A8.o k hk;omega)).mono ?_;rintro e Z ⟨⟨C2,q2,d3,rfl,Aq⟩,hZ⟩;have Ap:=q_ (AS.o.below hZ);have B6:=q_ (AR.o.below hZ);have B5:=q_ (AQ.o.below hZ);have AK:=q_ (AI.o.trans (.of_below hZ));have y0:=Ap.o.2.1 0 _ rfl;have y1:=Ap.o.2.2;clear hZ c8 v0 v1;go_wp2;go_roundw
  case rel=>exact ⟨k+1,C2,q2,d3,o_,zb_,q_ (Aq.o.up ((Kp.refl _ Z).setCell (p:=(a_ Y)) (.inl (.inr (.inr rfl))) _) o_),q_ (Ap.o.set 0 _),q_ (B6.o.far (by have:=A7.o;show (Y:Nat)≠w;omega) _),q_ (B5.o.far (by have:=A7.o;show (Y:Nat)≠w+2;omega) _),q_ (AK.o.setCell (p:=(a_ Y)) (.inl rfl) _)⟩
  case measure=>exact me_
 have Au:¬(k:Int)<(nn:Int):=by omega
 have B3:=q_ (AZ.o.up Af (Nat.le_refl L));have AG:=q_ (AH.o.up Af (Nat.le_refl L));have KS:=h_ (∀ w',Below wr wr w'->(w'.cell? (a_ Y)=some (.slice D u d)/\w'.cell? (f_ w 38)=some (.slice WA wn wc)/\w'.cell? (f_ w 40)=some (.slice DA dn dc))) (fun w' hb=>⟨(Ak.o.below hb).2.1 0 _ rfl,(Aa.o.below hb).2.1 38 _ HF.o.2.1,(Aa.o.below hb).2.1 40 _ HF.o.2.2⟩);have As:Below wr wr wr.drew:=Below.drew (b_);have Ah:=q_ As;obtain ⟨s0,s1,s2⟩:=KS.o wr.drew As;clear As Af;go_wp2_with fail;go_region_held3 (fun w':World=>w'.cell? (a_ Y)=some (.slice D u d)/\w'.cell? (f_ w 38)=some (.slice WA wn wc)/\w'.cell? (f_ w 40)=some (.slice DA dn dc))
  (first | (refine KS.o _ ?_;(first | (with_reducible exact Ah.o) | (with_reducible exact A1) | (with_reducible exact A9));done) | exact KR.o)
  (first
   | (go_at_call 135;refine (Written_t (fun k=>X k\/(w<=k/\k<w+3)\/k=Y) (K+L+k) D u d L WA wn wc wr.drew (hC.o.up (Kp.of_below Ah.o) (l_)) o_ (B3.o.up (Kp.of_below Ah.o) (l_)) o_ (fun k hk=>by have:=A8.o k hk;have:(wr.drew:Nat)=wr:=rfl;omega)).mono ?_;rintro e S ⟨⟨C2,q2,d3,rfl,Aq⟩,hS⟩;have A9:Below wr wr S:=Ah.o.trans hS;clear hS)
   | (go_at_call 134;refine (Reduced_t (fun k=>X k\/(w<=k/\k<w+3)\/k=Y) (K+L+k) C2 q2 d3 L DA dn dc S Aq.o o_ (AG.o.up (Kp.of_below A9) (l_)) o_ (fun k hk=>by have:=A8.o k hk;have:=A9.size;omega)).mono ?_;rintro e R ⟨⟨C3,q3,d4,rfl,B7⟩,hR⟩;have A1:Below wr wr R:=A9.trans (hR.mono A9.size);clear hR;have KR:=h_ (((R.setCell ⟨w+1+1,0,none⟩ (.slice C3 q3 d4)).cell? (a_ Y)=some (.slice D u d)/\(R.setCell ⟨w+1+1,0,none⟩ (.slice C3 q3 d4)).cell? (f_ w 38)=some (.slice WA wn wc)/\(R.setCell ⟨w+1+1,0,none⟩ (.slice C3 q3 d4)).cell? (f_ w 40)=some (.slice DA dn dc))) (⟨((Ak.o.below A1).far (by have:=A7.o;show (w:Nat)+2≠Y;omega) _).2.1 0 _ rfl,((Aa.o.below A1).far xt_ _).2.1 38 _ HF.o.2.1,((Aa.o.below A1).far xt_ _).2.1 40 _ HF.o.2.2⟩);have AO:=q_ (Aj.o.below A1);have AP:=q_ A1;have r0:=(Aj.o.below A1).2.1 0 _ rfl;have r1:=(Aj.o.below A1).2.2))
 go_wp2;refine retC results86 za_ underlying35 rfl k_ (cs:=[_]) (AO.o.set 0 _).whole rfl ?_;have hb:Below w w (R.setCell ⟨w+1+1,0,none⟩ (.slice C3 q3 d4)):=(((HW.o.trans (An.o.mono (by have:=AA.o;omega))).trans (Al.o.below (B:=w) (by have:=A7.o;have:=Az.o;omega) (fun k hk h=>by have:=A7.o;omega))).trans (AP.o.mono (by have:=A7.o;have:=Az.o;omega))).setCell y0_ _;exact ⟨⟨_,_,_,rfl,q_ ((B7.o.up ((Kp.refl _ R).setCell (p:=⟨w+1+1,0,none⟩) (.inl (.inr (.inl ⟨y0_,ws_⟩))) _) (show K+L+k<=K+2*L by omega)).kept (Kp.refl _ _) (fun k _ h h2=>h (.inl h2)) (l_))⟩,hb⟩
theorem Apply_t (X:NP) (K:Nat) (A:OA) (n c:Nat) (L:Nat) (vs:VL) (w:World) (h:SlT w X K objT A n c) (hK:K<=1000000000000) (ht:VTs w X L effT vs) (hL:L<=1000000000000) (hX:∀ k,X k->k<w) :
  Calls prog 78 #[.agg #[.slice A n c],.agg vs.toArray] w fun e w'=>RH X (K+2*L) e w'/\Below w w w':=by
 obtain ⟨i0,AN,AQ,AR,AS⟩:=info_parts infoOb;obtain ⟨NA,nn,nc,Ac,A7⟩:=ht.slc (j:=36) (e:=objT) rfl;obtain ⟨WA,wn,wc,Ab,A8⟩:=ht.slc (j:=35) (e:=ap_) rfl;obtain ⟨W,hW,Aa,AM,B0,B1,B2⟩:=ei_ w [.slice A n c] 35 vs 145 [.slice none 0 0] 35;have Af:∀ k,k<w.heap.size->¬X k->¬(X k\/(w.heap.size<=k/\k<w.heap.size+3)):=fun k hk h1 h2=>by rcases h2 with h2 | h2;exact h1 h2;omega
 have H:=q_ (h.kept (Y:=fun k=>X k\/(w<=k/\k<w+3)) (Kp.of_below Aa) Af (Nat.le_refl K));have HN:=q_ (A7.kept (Y:=fun k=>X k\/(w<=k/\k<w+3)) (Kp.of_below Aa) Af (Nat.le_refl L));have AJ:=q_ (A8.kept (Y:=fun k=>X k\/(w<=k/\k<w+3)) (Kp.of_below Aa) Af (Nat.le_refl L));have HW:=q_ Aa;have AB:=q_ B0;have AC:=q_ B1;have AD:=q_ B2;have AO:=h.le;have AP:=A7.le;have AT:=A8.le;have Ae:=h_ (∀ k,(X k\/(w<=k/\k<w+3))->k<W) (fun k hk=>by rcases hk with hk | hk;have:=hX k hk;omega;omega);have c0:=B0.2.1 0 _ rfl;have f0:=B0.2.2;have Az:(w:Nat)+3=W:=by omega
 have Aw:=q_ Az;have HF:=q_ (And.intro Ac Ab);clear h ht hX B0 B1 B2 Aa AM A7 A8 Af Az Ac Ab;go_enter func78,ntmps78;go_upto_region 1 with fail;rw [<-hW];clear hW;have HA:=h_ (SlT W (Wi (fun k=>X k\/(w<=k/\k<w+3)) (Value.slice none 0 0).ownBlock) K objT A n c) (H.o.kept (Kp.refl _ _) (fun k _ h h2=>by rcases h2 with h2 | h2;exact h h2;cases h2) (Nat.le_refl K));go_upto_region 2 with (at_builtin;refine ao_ rfl _ _ 33 rfl W 90 i0 _ 32 objT (fun k=>X k\/(w<=k/\k<w+3)) K underlying33 AN AQ AR AS rfl d_ none 0 0 zc_ (OwT.nil _ _ _ _ _ _) A n c zc_ HA.o Ae.o m_ o_ (l_) ?_;intro A4 c4 w4 o4 g4 l4;rw [Nat.zero_add] at o4 l4 ⊢;have b4:Below W W w4:=aj_ g4 (l_) (fun k hk=>by cases hk);have O4:=q_ (o4.slT Ae.o AO);have BX:=q_ (AB.o.below b4);have m0:=BX.o.2.1 0 _ rfl;have m1:=BX.o.2.2;have B4:=q_ b4;clear o4 l4 g4 c0 f0 b4);obtain ⟨U,hU⟩:=ex_ (w4.setCell (a_ w) (.slice A4 n c4));have zW:=Aw.o;have Ap:=h_ (Kp (fun k=>k=w) W U) xa_;have Ar:=h_ (SlT U (fun k=>X k\/(w<=k/\k<w+3)) (K+L) objT A4 n c4) y6_;have Au:=h_ (Bx U w [.slice A4 n c4]) wq_;have Ah:=h_ (Bx U (w+1) vs) (by rw [hU];exact (AC.o.below B4.o).far z1_ _);have As:=h_ (Bx U (w+2) [.slice none 0 0]) (by rw [hU];exact (AD.o.below B4.o).far ye_ _);rw [<-hU];have AW:=Ah.o.2.1 36 _ HF.o.1;clear hU m0 m1;go_upto_region 3 with fail;clear AW;go_loopw [18] (fun i wr=>∃ (k:Nat) (C:OA) (q d:Nat),k<=nn/\i=i_ k/\Hid (SlT wr (fun k=>X k\/(w<=k/\k<w+3)) (K+L+k) objT C q d)/\Hid (Bx wr w [.slice C q d])/\Hid (Bx wr (w+1) vs)/\Hid (Bx wr (w+2) [.slice none 0 0])/\Hid (Kp (fun k=>k=w) W wr)) (fun i _=>nn - (intOf i).toNat)
 case atStart=>exact ⟨0,A4,n,c4,o_,rfl,Ar,Au,Ah,As,Ap⟩
 obtain ⟨k,C,q,d,hk,rfl,hC,A2,An,A5,A1⟩:=hrel;have AA:=A1.o.size;have A6:Kp (fun k=>X k\/(w<=k/\k<w+3)) W wr:=A1.o.mono (fun k _ h=>.inr ⟨o_,o_⟩);by_cases hlt:k<nn
 ·have A3:(k:Int)<(nn:Int):=by omega
  obtain ⟨g,o,rfl,hg,x,Ax,Ay,hx⟩:=(HN.o.up A6 (Nat.le_refl L)).obj_at hlt;obtain ⟨c4,c5⟩:=hx wr (b_);obtain ⟨V,hV,A0,Am,V0⟩:=af_ wr [i_ x.id,.slice x.A x.n x.c] 90;have v0:=V0.2.1 0 _ rfl;have v1:=V0.2.1 1 _ rfl;have c8:=(A2.o.below A0).2.1 0 _ rfl;have Aj:=q_ (A2.o.below A0);have AI:=q_ (An.o.below A0);have Ai:=q_ (A5.o.below A0);have Ad:=q_ (hC.o.up (Kp.of_below A0) (l_));have Ag:=q_ (A1.o.trans (.of_below A0));have AG:=q_ (Ax.up (Kp.of_below A0) (show L<=K+L+k by omega));have AH:=q_ (Ay.up A0);have AU:=A0.size;clear hx Ax Ay A6 A0 Am V0;go_upto_region 5 with fail;rw [<-hV];clear hV c4 c5;go_wp2_with fail;refine (Put_t (fun k=>X k\/(w<=k/\k<w+3)) (K+L+k) C q d x V Ad.o AG.o AH.o o_ (fun k hk=>by have:=Ae.o k hk;omega)).mono ?_;rintro e Z ⟨⟨C2,q2,d3,rfl,Al⟩,hZ⟩;have Ak:=q_ (Aj.o.below hZ);have AL:=q_ (AI.o.below hZ);have AK:=q_ (Ai.o.below hZ);have AF:=q_ (Ag.o.trans (.of_below hZ));have y0:=Ak.o.2.1 0 _ rfl;have y1:=Ak.o.2.2;clear hZ c8 v0 v1;go_wp2;go_roundw
  case rel=>exact ⟨k+1,C2,q2,d3,o_,zb_,q_ (Al.o.up ((Kp.refl _ Z).setCell (p:=(a_ w)) (.inl (.inr ⟨zv_,xb_⟩)) _) o_),q_ (Ak.o.set 0 _),q_ (AL.o.far z1_ _),q_ (AK.o.far ye_ _),q_ (AF.o.setCell (p:=(a_ w)) (.inl rfl) _)⟩
  case measure=>exact me_
 have A3:¬(k:Int)<(nn:Int):=by omega
 have AV:=An.o.2.1 35 _ HF.o.2;have Ao:=q_ (hC.o.up (Kp.refl _ wr) (show K+L+k<=K+2*L by omega));clear A6;go_upto_region 8 with fail;clear AV A3;go_loopw [29] (fun i w2=>∃ (m:Nat) (D:OA) (u d:Nat),m<=wn/\i=i_ m/\Hid (SlT w2 (fun k=>X k\/(w<=k/\k<w+3)) (K+2*L) objT D u d)/\Hid (Bx w2 w [.slice D u d])/\Hid (Bx w2 (w+2) [.slice none 0 0])/\Hid (Kp (fun k=>k=w) W w2)) (fun i _=>wn - (intOf i).toNat)
 case atStart=>exact ⟨0,C,q,d,o_,rfl,Ao,A2,A5,A1⟩
 clear Ar Au Ah As Ap hC A2 An A5 A1 Ao AA hk;obtain ⟨m,D,u,d5,hm,rfl,hC,A2,A5,A1⟩:=hrel;have AA:=A1.o.size;have b0:=A2.o.2.1 0 _ rfl;have b1:=A2.o.2.2;have b2:=A5.o.2.1 0 _ rfl;have b3:=A5.o.2.2;have A6:Kp (fun k=>X k\/(w<=k/\k<w+3)) W wr:=A1.o.mono (fun k _ h=>.inr ⟨o_,o_⟩);by_cases hlt:m<wn
 ·have A3:(m:Int)<(wn:Int):=by omega
  obtain ⟨g,o,rfl,hg,x,hx⟩:=(AJ.o.up A6 (Nat.le_refl L)).dr_ hlt;obtain ⟨c4,c5,c6,c7⟩:=hx wr (b_);obtain ⟨V,hV,A0,Am,V0⟩:=af_ wr [i_ x.id,i_ x.field,.bool x.ref,i_ x.n] 87;have v0:=V0.2.1 0 _ rfl;have v1:=V0.2.1 1 _ rfl;have v2:=V0.2.1 2 _ rfl;have v3:=V0.2.1 3 _ rfl;have c8:=(A2.o.below A0).2.1 0 _ rfl;have Aj:=q_ (A2.o.below A0);have Ai:=q_ (A5.o.below A0);have Ad:=q_ (hC.o.up (Kp.of_below A0) (l_));have Ag:=q_ (A1.o.trans (.of_below A0));have AU:=A0.size;clear hx A6 A0 Am V0 b0 b1 b2 b3;go_upto_region 10 with fail;rw [<-hV];clear hV c4 c5 c6 c7;go_wp2_with fail;refine (Write_t (fun k=>X k\/(w<=k/\k<w+3)) (K+2*L) D u d5 x.id x.field ⟨x.ref,x.n⟩ V Ad.o o_ (fun k hk=>by have:=Ae.o k hk;omega)).mono ?_;rintro e Y ⟨⟨C2,q2,d3,b,rfl,Al⟩,hY⟩;have A9:=q_ (Aj.o.below hY);have Av:=q_ (Ai.o.below hY);have AE:=q_ (Ad.o.up (Kp.of_below hY) (l_));have Aq:=q_ (Ag.o.trans (.of_below hY));have y0:=A9.o.2.1 0 _ rfl;have y1:=A9.o.2.2;have AX:(w:Nat)<Y:=A9.o.1;clear hY c8 v0 v1 v2 v3;go_wp2;all_goals first
   | (go_roundw
      case rel=>exact ⟨m+1,C2,q2,d3,o_,zb_,q_ (Al.o.up (((Kp.refl _ Y).setCell (p:=(a_ w)) (.inl (.inr ⟨zv_,xb_⟩)) _).alloc _) (l_)),q_ ((A9.o.set 0 _).alloc _),q_ ((Av.o.far ye_ _).alloc _),q_ ((Aq.o.setCell (p:=(a_ w)) (.inl rfl) _).alloc _)⟩
      case measure=>exact me_)
   | (go_roundw
      case rel=>exact ⟨m+1,D,u,d5,o_,zb_,q_ (AE.o.up ((Kp.refl _ Y).alloc _) (l_)),q_ (A9.o.alloc _),q_ (Av.o.alloc _),q_ (Aq.o.alloc _)⟩
      case measure=>exact me_)
 have A3:¬(m:Int)<(wn:Int):=by omega
 clear A6;go_wp2;refine retC results78 za_ underlying35 rfl k_ (cs:=[_]) (A5.o.set 0 _).whole rfl ?_;have hb:Below w w (wr.setCell (a_ (w+2)) (.slice D u d5)):=(HW.o.trans (A1.o.below (B:=w) (by have:=Aw.o;omega) (fun k hk h=>o_))).setCell xw_ _;exact ⟨⟨_,_,_,rfl,q_ ((hC.o.up ((Kp.refl _ wr).setCell (p:=(a_ (w+2))) (.inl (.inr ⟨xw_,by show (w:Nat)+2<w+3;omega⟩)) _) (l_)).kept (Kp.refl _ _) (fun k _ h h2=>h (.inl h2)) (l_))⟩,hb⟩
section
variable {P:Program} {w:World} {ops:Array Oper} {rest:List Oper} {o:Oper} {a:Act} {Q:Exit->Act->World->Prop} {t et:TypeId} {bytes:Nat} {e:List CT} {X:NP} {K base n c m d:Nat} {A B:OA}
theorem cs_ (hgd:o.guard=none) (s x:Operand) (ho:o.op=.call { callee:=.builtin .append,args:=#[s,x],argTypes:=#[t,t] }) (E:EI P t et e bytes)
  (hs:a.eval s=.slice A n c) (hown:OwT w base et e X K A n c) (hx:a.eval x=.slice B m d) (hsrc:SlT w (Wi X (Value.slice A n c).ownBlock) K e B m d)
  (hX:∀ k,X k->k<w) (h63:n+m<=maxLen) (hbytes:(n+m)*bytes<=140737488355328) (hbase:base<=w)
  (h:∀ A' c' w',OwT w' base et e X K A' (n+m) c'->w.grownBy w' (Value.slice A n c).ownBlock->(∀ g,(Value.slice A' (n+m) c').ownBlock=some g->(Value.slice A n c).ownBlock=some g\/g=w)->wpList P ops Q rest (a.put o.dst (.slice A' (n+m) c')) w'):wpList P ops Q (o :: rest) a w:=by
 obtain ⟨i,z,hi,hz,A0,A1,A2⟩:=E.hi;exact ao_ hgd s x t ho base et i z bytes e X K E.ht hi hz A0 A1 A2 E.hsz A n c hs hown B m d hx hsrc hX h63 hbytes hbase h
theorem cu_ {K0:Act->World->Prop} {El:Prop} (hgd:o.guard=none) (s x:Operand) (ho:o.op=.call { callee:=.builtin .append,args:=#[s,x],argTypes:=#[t,t] }) (E:EI P t et e bytes)
  (hs:a.eval s=.slice A n c) (hown:OwT w base et e X K A n c) (hx:a.eval x=.slice B m d) (hsrc:SlT w (Wi X (Value.slice A n c).ownBlock) K e B m d)
  (hX:∀ k,X k->k<w) (h63:n+m<=maxLen) (hbytes:(n+m)*bytes<=140737488355328) (hbase:base<=w)
  (h:∀ A' c' w',OwT w' base et e X K A' (n+m) c'->w.grownBy w' (Value.slice A n c).ownBlock->(∀ g,(Value.slice A' (n+m) c').ownBlock=some g->(Value.slice A n c).ownBlock=some g\/g=w)->K0 (a.put o.dst (.slice A' (n+m) c')) w') :
  if Region.wanted o (yielded ops a.tmps)=true then Oper.wp P o a w K0 Q else El:=by
 obtain ⟨i,z,hi,hz,A0,A1,A2⟩:=E.hi;exact br_ hgd s x t ho base et i z bytes e X K E.ht hi hz A0 A1 A2 E.hsz A n c hs hown B m d hx hsrc hX h63 hbytes hbase h
end
theorem SlT.less2 {X Y:NP} {w:World} {K:Nat} {e:List CT} {A:OA} {n c:Nat} (h:SlT w X K e A n c) (hXY:∀ k,k<w.heap.size->Y k->X k):SlT w Y K e A n c:=h.kept (Kp.refl _ _) (fun k hk hx hy=>hx (hXY k hk hy)) (l_)
theorem ei_str:EI prog 188 9 [.txt] 16:=EI.of (z:=.string ByteArray.empty) underlying188 k_ rfl d_
def nX:NP:=fun _=>False
def ownX (A:OA) (n c:Nat):NP:=fun k=>(Value.slice A n c).ownBlock=some k
structure Gr (w:World) (base K:Nat) (A:OA) (n c m:Nat) (A':OA) (n' c':Nat) (w':World):Prop where
 lo:n<=n'
 hi:n'<=n+m
 own:OwT w' base 9 [.txt] nX K A' n' c'
 kp:Kp (ownX A n c) w w'
 loc:∀ g,(Value.slice A' n' c').ownBlock=some g->(Value.slice A n c).ownBlock=some g\/w<=g
def RGr (w:World) (base K:Nat) (A:OA) (n c m:Nat) (e:Ending) (w':World):Prop:=∃ A' n' c',e=.returned (.slice A' n' c')/\Hid (Gr w base K A n c m A' n' c' w')
theorem Gr.refl {w:World} {base K:Nat} {A:OA} {n c:Nat} (h:OwT w base 9 [.txt] nX K A n c) (m:Nat):Gr w base K A n c m A n c w:=⟨l_,Nat.le_add_right _ _,h,Kp.refl _ _,fun g hg=>.inl hg⟩
theorem Gr.trans {w w' w2:World} {base K:Nat} {A A' A2:OA} {n c m n' c' m' n2 c2:Nat} (h:Gr w base K A n c m A' n' c' w') (h2:Gr w' base K A' n' c' m' A2 n2 c2 w2):Gr w base K A n c (m+m') A2 n2 c2 w2 :=
 ⟨Nat.le_trans h.lo h2.lo,by have:=h.hi;have:=h2.hi;omega,h2.own,by
  refine ⟨h2.kp.os.trans h.kp.os,h2.kp.tape.trans h.kp.tape,h2.kp.output.trans h.kp.output,Nat.le_trans h.kp.size h2.kp.size,fun k hk hx=>(h2.kp.block k (lt_ hk h.kp.size) (fun A0=>?_)).trans (h.kp.block k hk hx)⟩
  rcases h.loc k A0 with h3 | h3
  ·exact hx h3
  ·omega,fun g hg=>by
  rcases h2.loc g hg with h3 | h3
  ·exact h.loc g h3
  exact .inr (Nat.le_trans h.kp.size h3)⟩
theorem OwT.names {w:World} {base K:Nat} {A:OA} {n c:Nat} (h:OwT w base 9 [.txt] nX K A n c) (hn:n<=K):SlT w nX K [.txt] A n c:=h.slT (fun k h=>h.elim) hn
theorem Gr.below {w w' w2:World} {base K:Nat} {A A':OA} {n c m n' c':Nat} (h:Gr w base K A n c m A' n' c' w') (hb:Below w' w' w2):Gr w base K A n c m A' n' c' w2 :=
 ⟨h.lo,h.hi,h.own.below hb,h.kp.bb_ hb,h.loc⟩
theorem Gr.more {w w':World} {base K:Nat} {A A':OA} {n c m m' n' c':Nat} (h:Gr w base K A n c m A' n' c' w') (hm:m<=m'):Gr w base K A n c m' A' n' c' w' :=
 ⟨h.lo,by have:=h.hi;omega,h.own,h.kp,h.loc⟩
theorem lit_names {w:World} {A:OA} {n c K:Nat} (s:ByteArray) (h:∀ g,(Value.slice A n c).ownBlock=some g->g<w) (hK:1<=K):SlT (w.alloc (.cells #[.string s] 9)) (Wi nX (Value.slice A n c).ownBlock) K [.txt] (some (a_ w)) 1 1 :=
 SlT.lit1 (VTs.cons (.txt s) VTs.nil) 9 (fun hx=>by
  rcases hx with hx | hx
  ·exact hx
  have:=h _ hx;omega) hK
theorem OwT.olt {w:World} {base K:Nat} {et:TypeId} {e:List CT} {X:NP} {A:OA} {n c:Nat} (h:OwT w base et e X K A n c):∀ g,(Value.slice A n c).ownBlock=some g->g<w:=fun g hg=>by obtain ⟨xs,ho,_⟩:=h;exact (am_ ho hg).2
theorem add_t (w:World) (base K:Nat) (A:OA) (n c:Nat) (s:ByteArray) (h:OwT w base 9 [.txt] nX K A n c) (hn:n+1<=K) (hK:K<=900000000) (hb:base<=w) :
  Calls prog 163 #[.slice A n c,.string s] w fun e w'=>RGr w base K A n c 1 e w':=by
 have H:=q_ h;clear h;go_enter func163,ntmps163;go_wp2_with fail;refine (Has_any A n c s nX K w (H.o.names o_) hK).mono ?_;rintro e W ⟨⟨b,rfl⟩,hB⟩;have HB:=q_ hB;clear hB;have G0:=q_ ((Gr.refl H.o 0).below HB.o);cases b
 case true =>
  go_wp2;go_ret;exact ⟨A,n,c,rfl,q_ (G0.o.more o_)⟩
 have HU:=q_ (lit_names (w:=W) (A:=A) (n:=n) (c:=c) (K:=K) s G0.o.own.olt o_);have HO:=q_ (G0.o.own.below ((b_).alloc (l_) (.cells #[.string s] 9)));have A0:base<=W:=Nat.le_trans hb HB.o.size;go_wp2_with (at_builtin;refine cs_ rfl _ _ rfl ei_str zc_ HO.o zc_ HU.o (fun k h=>h.elim) m_ o_ zp_ ?_;intro A5 c5 w5 o5 g5 l5;have O5:=q_ o5;have G5:=q_ g5;have L5:=q_ l5;clear o5 g5 l5);go_ret;refine ⟨_,_,_,rfl,q_ ⟨o_,l_,O5.o,?_,fun g hg=>?_⟩⟩
 ·exact ((G0.o.kp.alloc _).grown G5.o (fun k hk=>.inl hk))
 rcases L5.o g hg with h1 | h1
 ·exact .inl h1
 exact .inr (by rw [h1];have:=HB.o.size;simp;omega)
end Go.Proofs.YtfolidlmgfhkiaaGreat
namespace Go.Proofs.YtfolidlmgfhkiaaGreat
open Go.RowKit Go.Proofs.Tryz
attribute [local go_sem ↓] exec48
structure SlE (w:World) (B:Nat) (X:NP) (K:Nat) (e:List CT) (A:OA) (n:Nat):Prop where
 le:n<=K
 el:∀ k,k<n->∃ g o,A=some (f_ g o)/\g<B/\B<=w/\∃ vs,VTs w X K e vs/\∀ j u,vs[j]?=some u->w.cell? ⟨g,o+k*e.length+j,none⟩=some u
theorem SlE.kept {w w':World} {B K n:Nat} {X Y Z:NP} {e:List CT} {A:OA} (h:SlE w B X K e A n) (hk:Kp Z w w') (hZ:∀ k,k<w.heap.size->Z k->X k/\B<=k) (hXY:∀ k,k<w.heap.size->¬X k->¬Y k):SlE w' B Y K e A n :=
 ⟨h.le,fun k A0=>by
  obtain ⟨g,o,hA,hg,hB,vs,hv,hm⟩:=h.el k A0
  exact ⟨g,o,hA,hg,Nat.le_trans hB hk.size,vs,hv.kept (hk.mono (fun q hq h=>(hZ q hq h).1)) hXY (l_),fun j u hu=>(hk.cell o_ (fun h=>by have:=(hZ g o_ h).2;omega)).trans (hm j u hu)⟩⟩
theorem SlE.at0 {w:World} {B K n k:Nat} {X:NP} {e:List CT} {A:OA} (h:SlE w B X K e A n) (hk:k<n):∃ g o,A=some (f_ g o)/\g<w/\∃ vs,VTs w X K e vs/\∀ w',Below w w w'->∀ j u,vs[j]?=some u->w'.cell? ⟨g,o+k*e.length+j,none⟩=some u:=by
 obtain ⟨g,o,hA,hg,hB,vs,hv,hm⟩:=h.el k hk;exact ⟨g,o,hA,o_,vs,hv,fun w' hb j u hu=>(belc hb o_).trans (hm j u hu)⟩
theorem OwT.sle {w:World} {base K n c:Nat} {et:TypeId} {e:List CT} {Y:NP} {A:OA} (h:OwT w base et e Y K A n c) (hn:n<=K):SlE w w (Wi Y (Value.slice A n c).ownBlock) K e A n:=by
 obtain ⟨xs,A0,hx⟩:=h;refine ⟨hn,fun k hk=>?_⟩;rcases A0.2 with ⟨h',_⟩ | ⟨g,cap,cur,h',hbg,hg,_⟩
 ·injection h' with q1 q2 q3;omega
 injection h' with q1 _ q3;subst q1 q3;have A2:=(own_src A0).2 _ rfl;refine ⟨g,0,rfl,?_,l_,(List.range e.length).map (fun j=>xs.getD (k*e.length+j) undef),⟨zj_,fun j t hj=>?_⟩,fun j u hu=>?_⟩
 ·rcases Nat.lt_or_ge g w with q | q
  ·exact q
  rw [Array.getElem?_eq_none q] at hg;cases hg
 ·have A1:j<e.length:=(e_ hj).1;obtain ⟨u,hu,hv⟩:=hx k j t hk hj;refine ⟨u,?_,hv⟩;rw [List.getElem?_map,List.getElem?_range A1];show some (xs.getD (k*e.length+j) undef)=some u
  rw [List.getD_eq_getElem?_getD,hu];rfl
 have A1:j<e.length:=by have:=(e_ hu).1;simpa using this
 rw [List.getElem?_map,List.getElem?_range A1] at hu;injection hu with hu;obtain ⟨v,A3,A4⟩:=hx k j _ hk (ge_ A1);have hu:xs.getD (k*e.length+j) undef=u:=hu;rw [List.getD_eq_getElem?_getD,A3] at hu;have hu:v=u:=hu;subst hu;have:=A2 _ v A3;rw [Addr.add_lit] at this;rw [show 0+k*e.length+j=0+(k*e.length+j) from by omega];exact this
theorem View_e (X:NP) (K:Nat) (A:OA) (n c:Nat) (L N:Nat) (TA:OA) (tn tc:Nat) (kk:Int) (w:World) (h:SlT w X K objT A n c) (ht:SlE w w X L ae_ TA tn) (hN:tn<=N) (hK:K+2*L*N<=1000000000000) (hL:L<=1000000000000) (hX:∀ k,X k->k<w) :
  Calls prog 47 #[.agg #[.slice A n c],.slice TA tn tc,i_ kk] w fun e w'=>RH X (K+2*L*N) e w'/\Below w w w':=by
 obtain ⟨i0,AE,AH,AI,AJ⟩:=info_parts infoOb;obtain ⟨W,hW,Ae,AD,B0,B1⟩:=cb_ w [.slice A n c] 35 [.slice none 0 0] 35;have Ag:∀ k,k<w.heap.size->¬X k->¬(X k\/(w.heap.size<=k/\k<w.heap.size+2)):=fun k hk h1 h2=>by rcases h2 with h2 | h2;exact h1 h2;omega
 have H:=q_ (h.kept (Y:=fun k=>X k\/(w<=k/\k<w+2)) (Kp.of_below Ae) Ag (Nat.le_refl K));have HT:=q_ (ht.kept (Y:=fun k=>X k\/(w<=k/\k<w+2)) (Kp.of_below (X:=fun _=>False) Ae) (fun _ _ h=>h.elim) Ag);have HW:=q_ Ae;have Ax:=q_ B1;have AG:=h.le;have AL:=ht.le;have Aj:∀ i,i<=tn->2*L*i<=2*L*N:=fun i hi=>Nat.mul_le_mul_left _ o_
 have A8:=h_ (∀ k,(X k\/(w<=k/\k<w+2))->k<W) (fun k hk=>by rcases hk with hk | hk;have:=hX k hk;omega;omega);have Av:(w:Nat)+2=W:=by omega
 have Ah:=q_ Av;have c0:=B0.2.1 0 _ rfl;have AK:=Aj 0 o_;have Ab:=q_ Aj;clear h ht hX B0 B1 Ae AD Ag Av Aj;go_enter func47,ntmps47;go_upto_region 1 with fail;rw [<-hW];clear hW;have HA:=h_ (SlT W (Wi (fun k=>X k\/(w.heap.size<=k/\k<w.heap.size+2)) (Value.slice none 0 0).ownBlock) K objT A n c) (H.o.kept (Kp.refl _ _) (fun k _ h h2=>by rcases h2 with h2 | h2;exact h h2;cases h2) (Nat.le_refl K));go_upto_region 2 with (at_builtin;refine ao_ rfl _ _ 33 rfl W.heap.size 90 i0 _ 32 objT (fun k=>X k\/(w.heap.size<=k/\k<w.heap.size+2)) K underlying33 AE AH AI AJ rfl d_ none 0 0 zc_ (OwT.nil _ _ _ _ _ _) A n c zc_ HA.o A8.o m_ o_ (l_) ?_;intro A4 c4 w4 o4 g4 l4;rw [Nat.zero_add] at o4 l4 ⊢;have b4:Below W.heap.size W w4:=aj_ g4 (l_) (fun k hk=>by cases hk);have O4:=q_ (o4.slT A8.o AG);have B4:=q_ b4;clear o4 l4 g4 b4 c0);obtain ⟨V,hV,Ad,AC,V0⟩:=af_ w4 [.slice A4 n c4] 35;have Aw:=B4.o.size;have Ai:∀ k,k<w4.heap.size->¬(X k\/(w.heap.size<=k/\k<w.heap.size+2))->¬(fun k=>X k\/(w.heap.size<=k/\k<w.heap.size+2)\/k=w4.heap.size) k:=fun k hk h1 h2=>by rcases h2 with h2 | h2 | h2;exact h1 (.inl h2);exact h1 (.inr h2);omega
 have Ay:=q_ (O4.o.kept (Y:=(fun k=>X k\/(w<=k/\k<w+2)\/k=w4)) (Kp.of_below Ad) Ai (show K<=K+2*L*0 by omega));have Az:=q_ ((HT.o.kept (Kp.of_below (X:=fun _=>False) B4.o) (fun _ _ h=>h.elim) (fun _ _ h=>h)).kept (Y:=(fun k=>X k\/(w<=k/\k<w+2)\/k=w4)) (Kp.of_below (X:=fun _=>False) Ad) (fun _ _ h=>h.elim) Ai);have Af:=h_ (Below W W V) (B4.o.trans (Ad.mono Aw));have AA:=q_ (Ax.o.below Af.o);have AB:=q_ V0;have Ar:=h_ (∀ k,(fun k=>X k\/(w<=k/\k<w+2)\/k=w4) k->k<V) (fun k hk=>by rcases hk with hk | hk | hk;have:=A8.o k (.inl hk);omega;have:=A8.o k (.inr hk);omega;omega);have A7:=q_ (show (w:Nat)+2<=w4 by have:=Ah.o;omega);have Aq:=q_ (show (w4:Nat)<V by omega);rw [<-hV];clear hV Ad AC V0 Ai Aw H HT HA A8;go_upto_region 3 with fail;go_loopw [8] (fun i wr=>∃ (k:Nat) (D:OA) (u d:Nat),k<=tn/\i=i_ k/\Hid (SlT wr (fun k=>X k\/(w<=k/\k<w+2)\/k=w4) (K+2*L*k) objT D u d)/\Hid (Bx wr w4 [.slice D u d])/\Hid (Bx wr (w+1) [.slice none 0 0])/\Hid (Kp (fun k=>k=w4) V wr)) (fun i _=>tn - (intOf i).toNat)
 case atStart=>exact ⟨0,A4,n,c4,o_,rfl,Ay,AB,AA,q_ (Kp.refl _ _)⟩
 obtain ⟨k,D,u,d,hk,rfl,hC,A9,A3,A5⟩:=hrel;have AN:=A5.o.size;have Al:Kp (fun k=>X k\/(w<=k/\k<w+2)\/k=w4) V wr:=A5.o.mono (fun k _ h=>.inr (.inr h));by_cases h1:(k:Int)<kk
 ·by_cases h2:(k:Int)<(tn:Int)
  ·obtain ⟨g,o,rfl,hg,vs,Am,A0⟩:=(Az.o.kept A5.o (fun q _ hq=>⟨.inr (.inr hq),by have:=A7.o;omega⟩) (fun _ _ h=>h)).at0 (k:=k) o_;have AM:(prog.info? 65).map (·.size)=some vs.length:=by rw [Am.1];kernel_rfl
   have AF:ae_.length=48:=rfl;rw [AF] at A0;have Ac:=q_ Am;have An:=h_ (∀ w',Below wr wr w'->w'.rangeAt g (o+k*48) vs) (fun w' hb j v hv=>A0 w' hb j v hv);have Ak:Below wr wr wr.drew:=Below.drew (b_);have A2:=q_ Ak;have b0:=(A9.o.below Ak).2.1 0 _ rfl;clear Am A0 Al Ak;go_upto_region 5 with fail;have Au:There48 wr.drew (.pointer (some ⟨g,o+k*48,none⟩)):=⟨g,o+k*48,vs,rfl,Ac.o.1,An.o _ A2.o⟩;have Aa:row48V wr.drew (.pointer (some ⟨g,o+k*48,none⟩))=vs.toArray:=row48_at Ac.o.1 (An.o _ A2.o);go_region_law (first
    | (go_at_call 83;refine (Over_t (fun k=>X k\/(w<=k/\k<w+2)\/k=w4) (K+2*L*k) D u d L vs wr.drew (hC.o.up (Kp.of_below A2.o) (l_)) (by have:=Ab.o k hk;omega) (Ac.o.up (Kp.of_below A2.o) (l_)) hL (fun q hq=>by have:=Ar.o q hq;have:(wr.drew:Nat)=wr:=rfl;omega)).mono ?_;rintro e S ⟨⟨C2,q2,d3,rfl,As⟩,hS⟩;have A1:Below wr wr S:=A2.o.trans hS;have A6:=q_ (A9.o.below A1);have Ap:=q_ (A3.o.below A1);have Ao:=q_ (A5.o.trans (.of_below A1));have y0:=A6.o.2.1 0 _ rfl;have y1:=A6.o.2.2;clear hS A1 b0 Au Aa)
    | (go_simp;go_at_call 83;refine (Over_t (fun k=>X k\/(w<=k/\k<w+2)\/k=w4) (K+2*L*k) D u d L vs wr.drew (hC.o.up (Kp.of_below A2.o) (l_)) (by have:=Ab.o k hk;omega) (Ac.o.up (Kp.of_below A2.o) (l_)) hL (fun q hq=>by have:=Ar.o q hq;have:(wr.drew:Nat)=wr:=rfl;omega)).mono ?_;rintro e S ⟨⟨C2,q2,d3,rfl,As⟩,hS⟩;have A1:Below wr wr S:=A2.o.trans hS;have A6:=q_ (A9.o.below A1);have Ap:=q_ (A3.o.below A1);have Ao:=q_ (A5.o.trans (.of_below A1));have y0:=A6.o.2.1 0 _ rfl;have y1:=A6.o.2.2;clear hS A1 b0 Au Aa))
   all_goals
    try go_wp2
    go_roundw
    case rel=>exact ⟨k+1,C2,q2,d3,o_,zb_,q_ (As.o.up ((Kp.refl _ S).setCell (p:=(a_ w4)) (.inl (.inr (.inr rfl))) _) (by rw [Nat.mul_succ];omega)),q_ (A6.o.set 0 _),q_ (Ap.o.far (by have:=A7.o;show (w4:Nat)≠w+1;omega) _),q_ (Ao.o.setCell (p:=(a_ w4)) (.inl rfl) _)⟩
    case measure=>exact me_
  exact vh_
 exact vh_
end Go.Proofs.YtfolidlmgfhkiaaGreat
namespace Go.Proofs.YtfolidlmgfhkiaaGreat
open Go.RowKit Go.Proofs.Tryz
def cw:Nat->Nat
 | 0=>20
 | d+1=>20*(1+2*cw d)
theorem Gr.stay {w w':World} {base K:Nat} {A A':OA} {n c m n' c':Nat} (h:Gr w base K A n c m A' n' c' w') {p:VL->Prop} {e:List CT} {B:OA} {q r L:Nat} (hp:SlP w (ownX A n c) L p e B q r):SlP w' (ownX A' n' c') L p e B q r :=
 hp.kept h.kp (fun k hk hn hx=>by rcases h.loc k hx with h1 | h1;exact hn h1;omega) (l_)
theorem Gr.stc {w w':World} {base K:Nat} {A A':OA} {n c m n' c':Nat} (h:Gr w base K A n c m A' n' c' w') {k:Nat} {kd:Int} {s f:ByteArray} {nn op:Int} {D E B C:OA} {q1 q2 m1 c1 m2 c2 g o:Nat} (hs:StC w D k kd s f nn op E B C q1 q2 m1 c1 m2 c2 g o) (hg:¬ownX A n c g):StC w' D k kd s f nn op E B C q1 q2 m1 c1 m2 c2 g o:=by
 have hc:∀ j,w'.cell? (f_ g j)=w.cell? (f_ g j):=fun j=>h.kp.cell hs.lt hg
 exact ⟨hs.hA,lt_ hs.lt h.kp.size,(hc _).trans hs.k0,(hc _).trans hs.k1,(hc _).trans hs.k2,(hc _).trans hs.k3,(hc _).trans hs.k4,(hc _).trans hs.k5,(hc _).trans hs.k6,(hc _).trans hs.k7⟩
theorem Gr.cell {w w':World} {base K:Nat} {A A':OA} {n c m n' c':Nat} (h:Gr w base K A n c m A' n' c' w') {b j:Nat} (hb:b<w) (hn:¬ownX A n c b):w'.cell? (f_ b j)=w.cell? (f_ b j):=h.kp.cell hb hn
theorem walk_step (base K cst:Nat) (hK:K<=900000000) (B:OA) (nb cb:Nat) (A:OA) (n c:Nat) (w:World) (hnb:nb<=20) (h:OwT w base 9 [.txt] nX K A n c) (hn:n+nb*(1+2*cst)<=K) (hb:base<=w)
  (hk:∀ k,k<nb->∃ (kd:Int) (s f:ByteArray) (nn op:Int) (E B' C:OA) (m c' m1 c1 m2 c2 g o:Nat),StC w B k kd s f nn op E B' C m c' m1 c1 m2 c2 g o/\¬ownX A n c g ∧
   ∀ (A':OA) (n' c' q:Nat) (w' w2:World),Gr w base K A n c q A' n' c' w2->w'=w2->n'+cst<=K->(Calls prog 164 #[.slice A' n' c',.slice B' m1 c1] w' fun e w''=>RGr w' base K A' n' c' cst e w'')/\Calls prog 164 #[.slice A' n' c',.slice C m2 c2] w' fun e w''=>RGr w' base K A' n' c' cst e w'') :
  Calls prog 164 #[.slice A n c,.slice B nb cb] w fun e w'=>RGr w base K A n c (nb*(1+2*cst)) e w':=by
 have H:=q_ h;have HK:=q_ hk;clear h hk;go_enter func164,ntmps164;go_upto_region 2 with fail;go_loopw [0,9] (fun v i wr=>∃ (k:Nat) (A':OA) (n' c':Nat),k<=nb/\v=.slice A' n' c'/\i=i_ k/\n'<=n+k*(1+2*cst)/\Hid (Gr w base K A n c (k*(1+2*cst)) A' n' c' wr)) (fun _ i _=>nb - (intOf i).toNat)
 case atStart=>exact ⟨0,A,n,c,o_,rfl,rfl,o_,q_ (Gr.refl H.o _)⟩
 obtain ⟨k,A1,n1,c1,Aq,rfl,rfl,Ar,HG⟩:=hrel;have An:(w:Nat)<=wr:=HG.o.kp.size;by_cases hlt:k<nb
 ·have Ac:(k:Int)<(nb:Int):=by omega
  have Am:(k+1)*(1+2*cst)<=nb*(1+2*cst):=Nat.mul_le_mul_right _ hlt;have Ae:(k+1)*(1+2*cst)=k*(1+2*cst)+1+cst+cst:=by rw [Nat.succ_mul];omega
  obtain ⟨kd,s,f,nn,op,E,B',C,m,c',m1,A9,m2,c2,g,o,Ag,Af,A0⟩:=HK.o k hlt;obtain ⟨rfl,hg,k0,k1,k2,k3,k4,k5,k6,k7⟩:=HG.o.stc Ag Af;obtain ⟨V,hV,Aa,Ap,B0⟩:=af_ wr [i_ kd,.string s,.string f,i_ nn,i_ op,.slice E m c',.slice B' m1 A9,.slice C m2 c2] 212;have GV:=q_ (HG.o.below Aa);have Ai:=q_ Aa;have Ao:=q_ B0;have A5:¬ownX A1 n1 c1 wr:=fun hx=>by have:=HG.o.own.olt _ hx;omega
  have KC:=h_ (∀ (w':World) (q:Nat) (A2:OA) (n2 A6:Nat),Gr V base K A1 n1 c1 q A2 n2 A6 w'->(w'.cell? (f_ wr 1)=some (.string s)/\w'.cell? (f_ wr 6)=some (.slice B' m1 A9)/\w'.cell? (f_ wr 7)=some (.slice C m2 c2))) (fun w' q A2 n2 A6 Ab =>
   ⟨(Ab.cell o_ A5).trans (B0.2.1 1 _ rfl),(Ab.cell o_ A5).trans (B0.2.1 6 _ rfl),(Ab.cell o_ A5).trans (B0.2.1 7 _ rfl)⟩)
  have Ad:=q_ A0;have x0:=B0.2.1 0 _ rfl;clear B0 Aa Ag Af A0;go_upto_region 4 with fail;rw [<-hV];clear hV k0 k1 k2 k3 k4 k5 k6 k7;go_wp2_with fail;refine (Names_any kd V).mono ?_;rintro e W1 ⟨⟨b,rfl⟩,hB⟩;have H1:=q_ hB;have G1:=h_ (Gr V base K A1 n1 c1 0 A1 n1 c1 W1) ((Gr.refl GV.o.own 0).below hB);have Al:base<=W1:=Nat.le_trans hb (Nat.le_trans An (Nat.le_trans Ai.o.size hB.size));clear x0 hB;obtain ⟨x1,x6,x7⟩:=KC.o W1 _ _ _ _ G1.o;go_upto_if 15 with fail;go_cut [0] (fun v wx=>∃ (A2:OA) (n2 A6:Nat),v=.slice A2 n2 A6/\Hid (Gr V base K A1 n1 c1 1 A2 n2 A6 wx))
  case first =>
   cases b
   case false =>
    go_wp2;go_meet;exact ⟨_,_,_,rfl,q_ (G1.o.more o_)⟩
   go_wp2_with fail;refine (add_t W1 base K A1 n1 c1 s G1.o.own o_ hK Al).mono ?_;rintro e W2 ⟨A2,n2,A6,rfl,Aj⟩;go_wp2;go_meet;exact ⟨A2,n2,A6,rfl,q_ ((G1.o.trans Aj.o).more o_)⟩
  rename World=>W2
  obtain ⟨A2,n2,A6,rfl,G2⟩:=hcut;clear x1 x6 x7;obtain ⟨x1,x6,x7⟩:=KC.o W2 _ _ _ _ G2.o;have As:n2<=n1+1:=G2.o.hi;have Ak:(V:Nat)<=W2:=G2.o.kp.size;have Ah:=q_ (GV.o.trans G2.o);go_upto_region 6 with fail;go_region_held3 (fun w'=>w'.cell? (f_ wr 6)=some (.slice B' m1 A9)/\w'.cell? (f_ wr 7)=some (.slice C m2 c2))
   (first | exact ⟨x6,x7⟩ | exact ⟨y6,y7⟩ | exact ⟨z6,z7⟩)
   (first
    | (go_at_call_of 164 (Value.slice A2 n2 A6);refine (Ad.o A2 n2 A6 _ W2.drew W2.drew (Ah.o.below (Below.drew (b_))) rfl o_).1.mono ?_;rintro e W3 ⟨A3,n3,c3,rfl,G3⟩;have A7:=h_ (Gr V base K A1 n1 c1 (1+cst) A3 n3 c3 W3) ((G2.o.below (Below.drew (b_))).trans G3.o);obtain ⟨y1,y6,y7⟩:=KC.o W3 _ _ _ _ A7.out;have Au:n3<=n2+cst:=G3.o.hi)
    | (go_at_call_of 164 (Value.slice A3 n3 c3);refine (Ad.o A3 n3 c3 _ W3 W3 (GV.o.trans A7.out) rfl o_).2.mono ?_;rintro e W4 ⟨A4,n4,c4,rfl,G4⟩;have A8:=h_ (Gr V base K A1 n1 c1 (1+cst+cst) A4 n4 c4 W4) (A7.out.trans G4.o);obtain ⟨z1,z6,z7⟩:=KC.o W4 _ _ _ _ A8.out))
  all_goals
   go_wp2_with fail;go_roundw
   case rel=>exact ⟨k+1,A4,n4,c4,o_,rfl,zb_,by have:=A8.out.hi;omega,q_ ((GV.o.trans A8.out).more o_)⟩
   case measure=>exact me_
 have Ac:¬(k:Int)<(nb:Int):=by omega
 obtain rfl:k=nb:=by omega
 go_wp2;go_ret;exact ⟨_,_,_,rfl,HG⟩
theorem walk_t (base K:Nat) (hK:K<=900000000):∀ (d:Nat) (B:OA) (nb cb:Nat) (A:OA) (n c:Nat) (w:World),SlP w (ownX A n c) 20 pS (ah_ d) B nb cb->OwT w base 9 [.txt] nX K A n c->n+cw d<=K->base<=w →
  Calls prog 164 #[.slice A n c,.slice B nb cb] w fun e w'=>RGr w base K A n c (cw d) e w'
 | 0,B,nb,cb,A,n,c,w,hp,ho,hn,hb=>by
  have A1:=hp.sl.le;have h0:∀ (B:OA) (cb:Nat) (A:OA) (n c:Nat) (w:World),OwT w base 9 [.txt] nX K A n c->n<=K->base<=w->Calls prog 164 #[.slice A n c,.slice B 0 cb] w fun e w'=>RGr w base K A n c 0 e w':=fun B cb A n c w ho hn hb=>by
   have:=walk_step base K 0 hK B 0 cb A n c w o_ ho o_ hb (fun k hk=>o_)
   simpa using this
  refine (walk_step base K 0 hK B nb cb A n c w A1 ho (by unfold cw at hn;omega) hb (fun k hk=>?_)).mono (fun e w' h=>?_)
  ·obtain ⟨kd,s,f,nn,op,E,B',C,m,c',m1,c1,m2,c2,g,o,h1,h2,h3,h4,_,_,_,h5,_⟩:=hp.st hk;obtain ⟨rfl,rfl⟩:=h5 rfl;exact ⟨kd,s,f,nn,op,E,B',C,m,c',0,c1,0,c2,g,o,h1,h4,fun A' n' c' q w' w2 hG e A2=>by
    subst e
    have A0:base<=w':=Nat.le_trans hb hG.kp.size
    exact ⟨h0 _ _ _ _ _ _ hG.own o_ A0,h0 _ _ _ _ _ _ hG.own o_ A0⟩⟩
  obtain ⟨A',n',c',rfl,hG⟩:=h;exact ⟨A',n',c',rfl,q_ (hG.o.more (by unfold cw;omega))⟩
 | d+1,B,nb,cb,A,n,c,w,hp,ho,hn,hb=>by
  have A1:=hp.sl.le;have A3:nb*(1+2*cw d)<=20*(1+2*cw d):=Nat.mul_le_mul_right _ A1;have A4:cw (d+1)=20*(1+2*cw d):=rfl;refine (walk_step base K (cw d) hK B nb cb A n c w A1 ho o_ hb (fun k hk=>?_)).mono (fun e w' h=>?_)
  ·obtain ⟨kd,s,f,nn,op,E,B',C,m,c',m1,c1,m2,c2,g,o,h1,h2,h3,h4,_,_,_,_,h5⟩:=hp.st hk;obtain ⟨p1,p2⟩:=h5 d rfl;exact ⟨kd,s,f,nn,op,E,B',C,m,c',m1,c1,m2,c2,g,o,h1,h4,fun A' n' c' q w' w2 hG e A2=>by
    subst e
    have A0:base<=w':=Nat.le_trans hb hG.kp.size
    exact ⟨walk_t base K hK d _ _ _ _ _ _ _ (hG.stay p1) hG.own A2 A0,walk_t base K hK d _ _ _ _ _ _ _ (hG.stay p2) hG.own A2 A0⟩⟩
  obtain ⟨A',n',c',rfl,hG⟩:=h;exact ⟨A',n',c',rfl,q_ (hG.o.more o_)⟩
theorem Gr.slt {w w':World} {base K:Nat} {A A':OA} {n c m n' c':Nat} (h:Gr w base K A n c m A' n' c' w') {e:List CT} {B:OA} {q r L:Nat} (hp:SlT w (ownX A n c) L e B q r):SlT w' (ownX A' n' c') L e B q r :=
 hp.kept h.kp (fun k hk hn hx=>by rcases h.loc k hx with h1 | h1;exact hn h1;omega) (l_)
theorem Gr.nil {w w':World} {base K:Nat} {A':OA} {m n' c':Nat} (h:Gr w base K none 0 0 m A' n' c' w'):Below w w w':=h.kp.below (l_) (fun _ _ h=>by cases h)
theorem OwT.txt_any {X Y:NP} {w:World} {base K n c:Nat} {et:TypeId} {A:OA} (h:OwT w base et [.txt] X K A n c):OwT w base et [.txt] Y K A n c:=by
 obtain ⟨xs,ho,hx⟩:=h;refine ⟨xs,ho,fun k j t hk hj=>?_⟩;obtain ⟨u,hu,hv⟩:=hx k j t hk hj
 match j,hj with
 | 0,hj=>injection hj with hj;subst hj;obtain ⟨s,rfl⟩:=hv.str;exact ⟨_,hu,.txt s⟩
def cr:Nat->Nat
 | 0=>1
 | d+1=>1+20*cr d
def RNm (w:World) (K:Nat) (e:Ending) (w':World):Prop:=∃ A n c,e=.returned (.slice A n c)/\Hid (SlT w' (fun k=>k<w) K [.txt] A n c)
theorem reads_step (cst K:Nat) (hK:K<=900000000) (kd n:Int) (s:ByteArray) (op:Int) (A:OA) (m c:Nat) (w:World) (hm:m<=20) (hcst:1+m*cst<=K)
  (hk:∀ k,k<m->∃ (g o:Nat) (kd' n':Int) (s':ByteArray) (op':Int) (A':OA) (m' c':Nat),A=some (f_ g o)/\g<w/\w.cell? ⟨g,o+k*5,none⟩=some (i_ kd')/\w.cell? ⟨g,o+k*5+1,none⟩=some (i_ n')/\w.cell? ⟨g,o+k*5+2,none⟩=some (.string s')/\w.cell? ⟨g,o+k*5+3,none⟩=some (i_ op')/\w.cell? ⟨g,o+k*5+4,none⟩=some (.slice A' m' c') ∧
   ∀ (w':World),Below w w w'->Calls prog 188 #[.agg #[i_ kd',i_ n',.string s',i_ op',.slice A' m' c']] w' fun e w''=>RNm w' cst e w''/\Below w' w' w'') :
  Calls prog 188 #[.agg #[i_ kd,i_ n,.string s,i_ op,.slice A m c]] w fun e w'=>RNm w K e w'/\Below w w w':=by
 obtain ⟨W,hW,Ag,Aq,B0⟩:=af_ w [i_ kd,i_ n,.string s,i_ op,.slice A m c] 209;have Ai:=q_ B0;have HW:=q_ Ag;have HK:=q_ hk;have x0:=B0.2.1 0 _ rfl;have x2:=B0.2.1 2 _ rfl;have Am:(w:Nat)<W:=by omega
 clear B0 Ag hk;go_enter func188,ntmps188;go_upto_region 2 with fail;rw [<-hW];clear hW;have Aa:kd=3\/kd≠3:=by by_cases h:kd=3;exact .inl h;exact .inr h
 go_upto_if 10 with fail;go_cut [3] (fun v wx=>∃ (A1:OA) (n1 c1:Nat),v=.slice A1 n1 c1/\Hid (Gr W W K none 0 0 1 A1 n1 c1 wx))
 case first =>
  rcases Aa with Aa | Aa
  ·subst Aa;have HU:=q_ (lit_names (w:=W) (A:=none) (n:=0) (c:=0) (K:=K) s (fun g h=>by cases h) o_);go_wp2_with (at_builtin;refine cs_ (X:=nX) (K:=K) (base:=W) (A:=none) (n:=0) (c:=0) rfl _ _ rfl ei_str zc_ (OwT.nil _ _ _ _ _ _) (by simp [Act.eval] <;> omega) HU.o (fun k h=>h.elim) m_ o_ t_ ?_;intro A5 c5 w5 o5 g5 l5;have O5:=q_ o5;have G5:=q_ g5;have L5:=q_ l5;clear o5 g5 l5);go_meet;refine ⟨_,_,_,rfl,q_ ⟨o_,o_,O5.o,((Kp.refl _ W).alloc _).grown G5.o (fun k hk=>by cases hk),fun g hg=>?_⟩⟩;rcases L5.o g hg with h1 | h1
   ·cases h1
   exact .inr (by rw [h1];simp)
  go_wp2;go_meet;exact ⟨none,0,0,rfl,q_ (Gr.refl (OwT.nil _ _ _ _ _ _) _)⟩
 rename World=>W1
 obtain ⟨A1,n1,c1,rfl,G1⟩:=hcut;have x4:W1.cell? (f_ w 4)=some (.slice A m c):=(belc G1.o.nil Am).trans (Ai.o.2.1 4 _ rfl);clear x0 x2;go_upto_region 5 with fail;clear x4;go_loopw [3,19] (fun v i wr=>∃ (k:Nat) (A':OA) (n' c':Nat),k<=m/\v=.slice A' n' c'/\i=i_ k/\Hid (Gr W W K none 0 0 (1+k*cst) A' n' c' wr)) (fun _ i _=>m - (intOf i).toNat)
 case atStart=>exact ⟨0,A1,n1,c1,o_,rfl,rfl,q_ (G1.o.more o_)⟩
 obtain ⟨k,A2,n2,c2,Aw,rfl,rfl,HG⟩:=hrel;have Ac:Below W W wr:=HG.o.nil;have A7:=q_ (HW.o.trans (Ac.mono HW.o.size));have An:(w:Nat)<=wr:=A7.o.size;have Ap:(W:Nat)<=wr:=Ac.size;clear Ac;by_cases hlt:k<m
 ·have Ae:(k:Int)<(m:Int):=by omega
  have Al:(k+1)*cst<=m*cst:=Nat.mul_le_mul_right _ hlt;have Ah:(k+1)*cst=k*cst+cst:=Nat.succ_mul _ _;obtain ⟨g,o,kd',n',s',op',A',m',c',rfl,hg,k0,k1,k2,k3,k4,A0⟩:=HK.o k hlt;have Au:g<wr:=lt_ hg A7.o.size;have A3:∀ j,wr.cell? (f_ g j)=w.cell? (f_ g j):=fun j=>belc A7.o hg
  rw [<-A3] at k0 k1 k2 k3 k4;have Aj:=q_ A0;have A9:=h_ (Below wr wr (wr.alloc (.cells #[i_ kd',i_ n',.string s',i_ op',.slice A' m' c'] 209))) ((b_).alloc (l_) _);clear A3 A0;go_wp2_with fail;refine (Aj.o _ (A7.o.trans (A9.o.mono An))).mono ?_;rintro e W3 ⟨⟨B,nb,cb,rfl,hS⟩,Af⟩;have A8:Below wr wr W3:=A9.o.trans (Af.mono A9.o.size);have G3:=q_ (HG.o.below A8);have Az:nb<=cst:=hS.o.le;have HS:=h_ (SlT W3 (ownX A2 n2 c2) cst [.txt] B nb cb) (hS.o.less2 (fun k _ hx=>by have:=HG.o.own.olt _ hx;show k<_;have:=A9.o.size;omega));have Ax:n2<=1+k*cst:=by have:=HG.o.hi;omega
  clear Af A8 hS k0 k1 k2 k3 k4;go_upto_region 8 with fail;go_loopw [3,26] (fun v i wy=>∃ (j:Nat) (A4:OA) (n4 c4:Nat),j<=nb/\v=.slice A4 n4 c4/\i=i_ j/\Hid (Gr W3 W K A2 n2 c2 j A4 n4 c4 wy)) (fun _ i _=>nb - (intOf i).toNat)
  case atStart=>exact ⟨0,A2,n2,c2,o_,rfl,rfl,q_ (Gr.refl G3.o.own _)⟩
  rename World=>wy
  obtain ⟨j,A4,n4,c4,Av,rfl,rfl,HJ⟩:=hrel;by_cases hlj:j<nb
  ·have Ad:(j:Int)<(nb:Int):=by omega
   have Ak:=q_ (HJ.o.slt HS.o);have Ay:n4<=n2+j:=HJ.o.hi;obtain ⟨gb,ob,rfl,As,Ar,us,hv,hm⟩:=Ak.o.mt hlj;obtain ⟨u,hu,ht⟩:=hv.2 0 .txt rfl;obtain ⟨t,rfl⟩:=ht.str;have y0:wy.cell? ⟨gb,ob+j,none⟩=some (.string t):=by have:=hm 0 _ hu;simpa using this
   clear hv hm hu ht;go_wp2_with fail;refine (Has_any A4 n4 c4 t nX K wy (HJ.o.own.names o_) hK).mono ?_;rintro e W5 ⟨⟨b,rfl⟩,Ab⟩;have Ao:=q_ Ab;have G5:=q_ (HJ.o.below Ab);clear Ab y0;cases b
   case true =>
    go_wp2;go_roundw
    case rel=>exact ⟨j+1,A4,n4,c4,o_,rfl,zb_,q_ (G5.o.more o_)⟩
    case measure=>exact me_
   have HU:=q_ (lit_names (w:=W5) (A:=A4) (n:=n4) (c:=c4) (K:=K) t G5.o.own.olt o_);have HO:=q_ (G5.o.own.below ((b_).alloc (l_) (.cells #[.string t] 9)));have AA:(W:Nat)<=W5:=by have h1:=G3.o.kp.size;have h2:=G5.o.kp.size;omega
   go_wp2_with (at_builtin;refine cs_ rfl _ _ rfl ei_str zc_ HO.o zc_ HU.o (fun k h=>h.elim) m_ o_ zp_ ?_;intro A6 c6 w6 o6 g6 l6;have O6:=q_ o6;have G6:=q_ g6;have L6:=q_ l6;clear o6 g6 l6);go_roundw
   case rel =>
    have G7:Gr W5 W K A4 n4 c4 1 A6 (n4+1) c6 w6:=⟨o_,l_,O6.o,((Kp.refl _ W5).alloc _).grown G6.o (fun k hk=>.inl hk),fun g hg=>by
     rcases L6.o g hg with h1 | h1
     ·exact .inl h1
     exact .inr (by rw [h1];simp)⟩
    exact ⟨j+1,A6,n4+1,c6,o_,rfl,zb_,q_ (G5.o.trans G7)⟩
   case measure=>exact me_
  have Ad:¬(j:Int)<(nb:Int):=by omega
  go_wp2;go_roundw
  case rel=>exact ⟨k+1,A4,n4,c4,o_,rfl,zb_,q_ ((G3.o.trans HJ.o).more o_)⟩
  case measure=>exact me_
 have Ae:¬(k:Int)<(m:Int):=by omega
 obtain rfl:k=m:=by omega
 go_wp2;go_ret;exact ⟨⟨A2,n2,c2,rfl,q_ (HG.o.own.txt_any.slT (fun q hq=>by have:q<w:=hq;omega) (by have:=HG.o.hi;omega))⟩,A7.o⟩
theorem Reads_any (X:NP):∀ (d:Nat) (vs:VL) (w:World),d<=4->VTs w X 20 (ay_ d) vs->Calls prog 188 #[.agg vs.toArray] w fun e w'=>RNm w (cr d) e w'/\Below w w w'
 | 0,vs,w,_,h=>by
  obtain ⟨kd,n,s,op,A,c,rfl⟩:=h.expr0;exact reads_step 0 (cr 0) d_ kd n s op A 0 c w o_ d_ (fun k hk=>o_)
 | d+1,vs,w,hd,h=>by
  obtain ⟨kd,n,s,op,A,m,c,rfl,hp⟩:=h.expr;have hm:=hp.sl.le;have A0:cr (d+1)<=900000000:=by
   match d,hd with
   | 0,_=>decide
   | 1,_=>decide
   | 2,_=>decide
   | 3,_=>decide
  refine reads_step (cr d) (cr (d+1)) A0 kd n s op A m c w hm (by have:m*cr d<=20*cr d:=Nat.mul_le_mul_right _ hm;show 1+m*cr d<=1+20*cr d;omega) (fun k hk=>?_);obtain ⟨g,o,us,rfl,hg,hX,hu,A1,hc⟩:=hp.el hk;obtain ⟨A2,n',s',A3,A',m',c',rfl,_,_,_⟩:=A1;rw [dx_] at hc;exact ⟨g,o,A2,n',s',A3,A',m',c',rfl,hg,hc 0 _ rfl,hc 1 _ rfl,hc 2 _ rfl,hc 3 _ rfl,hc 4 _ rfl,fun w' hb=>Reads_any X d _ w' o_ (hu.up (.of_below hb) (l_))⟩
theorem Vars_t (X:NP) (K:Nat) (hK:K<=900000000) (d:Nat) (s:ByteArray) (P:OA) (np cp:Nat) (B:OA) (nb cb:Nat) (w:World) (hP:SlT w X 20 [.sat strP] P np cp) (hB:SlP w X 20 pS (ah_ d) B nb cb) (hc:20+cw d<=K) :
  Calls prog 109 #[.agg #[.string s,.slice P np cp,.slice B nb cb]] w fun e w'=>RNm w K e w'/\Below w w w':=by
 obtain ⟨W,hW,A0,A8,B0⟩:=af_ w [.string s,.slice P np cp,.slice B nb cb] 194;have A5:=q_ B0;have HW:=q_ A0;have x1:=B0.2.1 1 _ rfl;have A7:(w:Nat)<W:=by omega
 have Ab:=hP.le;have HP:=h_ (SlT W nX 20 [.sat strP] P np cp) ((hP.up (Kp.of_below A0) (l_)).less2 (fun _ _ h=>h.elim));have HS:=h_ (SlP W nX 20 pS (ah_ d) B nb cb) ((hB.below A0).less (fun _ _ h=>h.elim));clear B0 A0 hP hB;go_enter func109,ntmps109;go_upto_region 3 with fail;rw [<-hW];clear hW x1;go_loopw [3,9] (fun v i wr=>∃ (k:Nat) (A':OA) (n' c':Nat),k<=np/\v=.slice A' n' c'/\i=i_ k/\Hid (Gr W W K none 0 0 k A' n' c' wr)) (fun _ i _=>np - (intOf i).toNat)
 case atStart=>exact ⟨0,none,0,0,o_,rfl,rfl,q_ (Gr.refl (OwT.nil _ _ _ _ _ _) _)⟩
 obtain ⟨k,A2,n2,c2,A9,rfl,rfl,HG⟩:=hrel;have Aa:n2<=0+k:=HG.o.hi;have A4:(W:Nat)<=wr:=HG.o.kp.size;by_cases hlt:k<np
 ·have A1:(k:Int)<(np:Int):=by omega
  obtain ⟨g,o,rfl,hg,hX,us,hv,hm⟩:=(HP.o.up (Kp.of_below HG.o.nil) (l_)).mt hlt;obtain ⟨u,hu,ht⟩:=hv.2 0 (.sat strP) rfl;obtain ⟨t,rfl,_⟩:strP u:=by cases ht;assumption
  have y0:wr.cell? ⟨g,o+k,none⟩=some (.string t):=by have:=hm 0 _ hu;simpa using this
  clear hv hm hu ht;go_wp2_with fail;refine (add_t wr W K A2 n2 c2 t HG.o.own o_ hK A4).mono ?_;rintro e W3 ⟨A3,n3,c3,rfl,G3⟩;go_wp2;go_roundw
  case rel=>exact ⟨k+1,A3,n3,c3,o_,rfl,zb_,q_ (HG.o.trans G3.o)⟩
  case measure=>exact me_
 have A1:¬(k:Int)<(np:Int):=by omega
 have x2:wr.cell? (f_ w 2)=some (.slice B nb cb):=(belc HG.o.nil A7).trans (A5.o.2.1 2 _ rfl);have A6:=h_ (SlP wr (ownX A2 n2 c2) 20 pS (ah_ d) B nb cb) (HG.o.stay (HS.o.less (fun _ _ h=>by cases h)));go_wp2_with fail;refine (walk_t W K hK d B nb cb A2 n2 c2 wr A6.o HG.o.own o_ A4).mono ?_;rintro e W3 ⟨A3,n3,c3,rfl,G3⟩;have G4:=q_ (HG.o.trans G3.o);go_wp2;go_ret;exact ⟨⟨A3,n3,c3,rfl,q_ (G4.o.own.txt_any.slT (fun q hq=>by have:q<w:=hq;omega) (by have:=G4.o.hi;omega))⟩,HW.o.trans (G4.o.nil.mono HW.o.size)⟩
theorem expr_ok0:ExprOK 0:=mex_step 0 d_ (fun j h=>absurd h o_)
theorem expr_ok1:ExprOK 1:=mex_step 1 d_ (fun j h=>by injection h with h;subst h;exact expr_ok0)
theorem expr_ok2:ExprOK 2:=mex_step 2 d_ (fun j h=>by injection h with h;subst h;exact expr_ok1)
theorem ck_:∀ k,k<=2->ExprOK k
 | 0,_=>expr_ok0
 | 1,_=>expr_ok1
 | 2,_=>expr_ok2
def PtrOK:Prop:=∀ (d b lp:Nat) (X:NP) (w:World),Mk d b lp w->(∀ q,Zm d b q->X q)->(∀ q,X q->q<w)->Calls prog 205 #[.pointer (some (a_ b))] w fun e w'=>RE X 2 e w'/\Md d b lp w w'
theorem pointer_ok:PtrOK:=by
 intro d b lp X w hM hz Ac;obtain ⟨W,hW,A9,Ag,B0⟩:=af_ w [i_ 0,i_ 0,.string ⟨#[]⟩,i_ 0,.slice none 0 0] 209;have A3:=hM.below A9;have Aa:b<w:=hM.lt;obtain ⟨X1,A4⟩:∃ X1:NP,X1=fun q=>X q\/q=w:=⟨_,rfl⟩
 obtain ⟨Z1,A5⟩:∃ Z1:NP,Z1=fun q=>Zm d b q\/q=w:=⟨_,rfl⟩
 have A2:=h_ (X1 w/\Z1 w) (⟨by rw [A4];exact .inr rfl,by rw [A5];exact .inr rfl⟩);have Ab:InvR d b lp X1 Z1 w w (ay_ (2)) pE W:=⟨A3,.of_below A9,fun q hq=>by rw [A4] at hq;rcases hq with hq | hq;(have:=Ac q hq;omega);omega,_,B0,vts_ex (SlP.nil _ _ _ _ _),pE_ex x_ x_ d_⟩;have hC:IC d b lp (x1 X1) (InvR d b lp X1 Z1 w w (ay_ (2)) pE):=InvR.ic (fun _ _ _ h=>h) (fun q hq=>by rw [A4];exact .inl (hz q hq)) (fun q hq=>by rw [A5];exact .inl hq) hM.nz;have HC:=q_ hC;have A6:=h_ (∀ w',Mk d b lp w'->Kp (Zm d b) W w'->InvR d b lp X1 Z1 w w (ay_ (2)) pE w') (fun w' h1 h2=>hC.up W w' Ab h1 h2);have A0:=h_ (∀ (a:Act) (w2:World),InvR d b lp X1 Z1 w w (ay_ (2)) pE w2->a.defers=[]->a.tmps.getD 2 undef=.pointer (some (a_ w))->bodyPost prog f205 (fun e w'=>RE X (2) e w'/\Md d b lp w w') .ret a w2) (fun a w2 hI A1 ha=>by
  obtain ⟨cs,g1,g2,g3⟩:=hI.bx
  obtain ⟨kd,n,s,op,A,m,c,rfl,_⟩:=g2.expr
  refine retC results205 ha underlying209 rfl (cs:=exL kd n s op A m c) isz5 g1.whole A1 ⟨⟨_,_,_,_,_,_,_,rfl,q_ ⟨g2.less (fun q _ hq=>by rw [A4];exact .inl hq),g3⟩⟩,hI.ok,hI.kp.mono (fun q hq Ae=>?_)⟩
  rw [A5] at Ae
  rcases Ae with h | h
  ·exact h
  omega)
 have c0:=A3.c0;have Ah:=A3.lt;have HD:=q_ A3.dice;have Af:=q_ A3;clear hM hz Ac B0 A9 Ab hC Ag A4 A5;go_enter func205,ntmps205;go_upto_region 1 with fail;rw [<-hW];clear hW;go_upto_region 2 with (go_at_call 26;refine (bn_ d 4 W HD.o d_ d_).mono ?_;rintro e w1 ⟨r,hr,rfl,ht,_⟩);have A8:=q_ (Af.o.thrown ht);have A7:=q_ (ht.kp b);clear c0 Ah ht;by_cases h0:r=0
 ·subst h0;go_upto_region 3 with fail;refine be_ (X:=(x1 X1)) (Inv:=(InvR d b lp X1 Z1 w w (ay_ (2)) pE)) (ks:=fun i=>([(kV _ (pt b)),(kEx _ 2),(kAny _)]:List (SK (x1 X1))).getD i (kAny _)) k_ (A6.o _ A8.o A7.o) ?_ ?_
  ·intro i o ho a w hI hout hin
   match i,ho with
   | 0,ho=>cases ho;exact M0_
   | 1,ho=>cases ho;exact ch_ (k:=1) HC.o (ck_ 1 d_) rfl H0_ rfl hI
   | 2,ho=>cases ho;exact dc_ (fun _ h=>h) Aa A2.o.1 A2.o.2 rfl (hout 2 d_) (show (kEx _ 2).p w _ from H1_) hI
   | q+3,ho=>exact n_ ho
  exact uy_
 have Ai:¬(r:Int)=0:=by omega
 by_cases h1:r=1
 ·subst h1;go_upto_region 5 with fail;refine be_ (X:=(x1 X1)) (Inv:=(InvR d b lp X1 Z1 w w (ay_ (2)) pE)) (ks:=fun i=>([(kV _ (pt b)),(kV _ (pt b)),(kV _ (pt b)),(kV _ (pt d)),(kNat _ 2),(kEx _ 0),(kExs _ 0 1),(kEx _ 1),(kAny _)]:List (SK (x1 X1))).getD i (kAny _)) k_ (A6.o _ A8.o A7.o) ?_ ?_
  ·intro i o ho a w hI hout hin
   match i,ho with
   | 0,ho=>cases ho;exact M0_
   | 1,ho=>cases ho;exact bz_ rfl H0_ hI
   | 2,ho=>cases ho;exact ca_ d_ rfl H1_ hI
   | 3,ho=>cases ho;exact bk_ HC.o rfl H2_ hI
   | 4,ho=>cases ho;exact bp_ (n:=2) HC.o rfl H3_ rfl d_ d_ hI
   | 5,ho=>cases ho;exact eh_ HC.o rfl ⟨_,rfl,d_⟩ hI
   | 6,ho=>cases ho;exact dq_ HC.o rfl (show (kEx _ 0).p w _ from H5_) hI
   | 7,ho=>cases ho;exact rk_be3 rfl (cr_ (show (kNat _ 2).p w _ from H4_)) (show (kExs _ 0 1).p w _ from H6_) hI
   | 8,ho=>cases ho;exact dc_ (fun _ h=>h) Aa A2.o.1 A2.o.2 rfl (hout 2 d_) (bg_ (d':=2) d_ (show (kEx _ 1).p w _ from H7_)) hI
   | q+9,ho=>exact n_ ho
  exact uy_
 have Aj:¬(r:Int)=1:=by omega
 go_upto_region 6 with fail;refine be_ (X:=(x1 X1)) (Inv:=(InvR d b lp X1 Z1 w w (ay_ (2)) pE)) (ks:=fun i=>([(bs_ _ 2),(kV _ (pt b)),(kV _ (pt b)),(kV _ (pt b)),(kV _ (pt d)),(kNat _ 2),(df_ _),(kStr _),(kEx _ 0),(kAny _)]:List (SK (x1 X1))).getD i (kAny _)) k_ (A6.o _ A8.o A7.o) ?_ ?_
 ·intro i o ho a w hI hout hin
  match i,ho with
  | 0,ho=>cases ho;exact rk_bst2 HC.o rfl d_ d_ hI
  | 1,ho=>cases ho;exact M0_
  | 2,ho=>cases ho;exact bz_ rfl H1_ hI
  | 3,ho=>cases ho;exact ca_ d_ rfl H2_ hI
  | 4,ho=>cases ho;exact bk_ HC.o rfl H3_ hI
  | 5,ho=>cases ho;exact bp_ (n:=2) HC.o rfl H4_ rfl d_ d_ hI
  | 6,ho=>cases ho;exact rk_idx (n:=2) rfl (show (bs_ _ 2).p w _ from H0_) (show (kNat _ 2).p w _ from H5_) hI
  | 7,ho=>cases ho;exact eg_ rfl (show (df_ _).p w _ from H6_) hI
  | 8,ho=>cases ho;exact eh_ HC.o rfl (show (kStr _).p w _ from H7_) hI
  | 9,ho=>cases ho;exact dc_ (fun _ h=>h) Aa A2.o.1 A2.o.2 rfl (hout 2 d_) (bg_ (d':=2) d_ (show (kEx _ 0).p w _ from H8_)) hI
  | q+10,ho=>exact n_ ho
 exact uy_
def CallOK:Prop:=∀ (d b lp:Nat) (X:NP) (s:ByteArray) (w:World),s.size<=100->Mk d b lp w->(∀ q,Zm d b q->X q)->(∀ q,X q->q<w)->Calls prog 206 #[.pointer (some (a_ b)),.string s] w fun e w'=>RS X 0 e w'/\Md d b lp w w'
theorem call_ok:CallOK:=by
 intro d b lp X s w hs hM hz Ad;obtain ⟨W,hW,Aa,Ag,B0⟩:=af_ w [i_ 0,.string ⟨#[]⟩,.string ⟨#[]⟩,i_ 0,i_ 0,.slice none 0 0,.slice none 0 0,.slice none 0 0] 212;have A3:=hM.below Aa;have Ab:b<w:=hM.lt;obtain ⟨X1,A4⟩:∃ X1:NP,X1=fun q=>X q\/q=w:=⟨_,rfl⟩
 obtain ⟨Z1,A7⟩:∃ Z1:NP,Z1=fun q=>Zm d b q\/q=w:=⟨_,rfl⟩
 have A2:=h_ (X1 w/\Z1 w) (⟨by rw [A4];exact .inr rfl,by rw [A7];exact .inr rfl⟩);have Ac:InvR d b lp X1 Z1 w w (ah_ (0)) pS W:=⟨A3,.of_below Aa,fun q hq=>by rw [A4] at hq;rcases hq with hq | hq;(have:=Ad q hq;omega);omega,_,B0,ec_ (SlP.nil _ _ _ _ _),pS_st x_ x_ x_ d_ d_⟩;have hC:IC d b lp (x1 X1) (InvR d b lp X1 Z1 w w (ah_ (0)) pS):=InvR.ic (fun _ _ _ h=>h) (fun q hq=>by rw [A4];exact .inl (hz q hq)) (fun q hq=>by rw [A7];exact .inl hq) hM.nz;have HC:=q_ hC;have A8:=h_ (∀ w',Mk d b lp w'->Kp (Zm d b) W w'->InvR d b lp X1 Z1 w w (ah_ (0)) pS w') (fun w' h1 h2=>hC.up W w' Ac h1 h2);have A0:=h_ (∀ (a:Act) (w2:World),InvR d b lp X1 Z1 w w (ah_ (0)) pS w2->a.defers=[]->a.tmps.getD 4 undef=.pointer (some (a_ w))->bodyPost prog f206 (fun e w'=>RS X (0) e w'/\Md d b lp w w') .ret a w2) (fun a w2 hI A1 ha=>by
  obtain ⟨cs,g1,g2,g3⟩:=hI.bx
  obtain ⟨kd,s,f,n,op,A,B,C,m,c,c1,c2,rfl,_⟩:=g2.stmt0
  refine retC results206 ha underlying212 rfl (cs:=stL kd s f n op A m c B 0 c1 C 0 c2) isz8 g1.whole A1 ⟨⟨_,_,_,_,_,_,_,_,_,_,_,_,_,_,rfl,q_ ⟨g2.less (fun q _ hq=>by rw [A4];exact .inl hq),g3⟩⟩,hI.ok,hI.kp.mono (fun q hq Af=>?_)⟩
  rw [A7] at Af
  rcases Af with h | h
  ·exact h
  omega)
 have c0:=A3.c0;have Ah:=A3.lt;have HD:=q_ A3.dice;have A9:=q_ A3;clear hM hz Ad B0 Aa Ac hC Ag A4 A7;obtain ⟨fn,c3⟩:=A9.o.c3;go_enter func206,ntmps206;go_upto_region 1 with fail;rw [<-hW];clear hW;by_cases hf:fn=0
 ·subst hf;go_upto_if 17 with (go_at_call 26;refine (bn_ d 2 W HD.o d_ d_).mono ?_;rintro e w1 ⟨r,hr,rfl,ht,_⟩);have A6:=q_ (A9.o.thrown ht);have A5:=q_ (ht.kp b);clear c0 Ah ht c3;by_cases h0:r=0
  ·subst h0;go_upto_region 2 with fail;refine dl_ (X:=(x1 X1)) (Inv:=(InvR d b lp X1 Z1 w w (ah_ (0)) pS)) (ks:=fun i=>([(kStr _),(kV _ (pt b)),(kEx _ 2),(kV _ (pt b)),(kV _ (pt b)),(kV _ (pt b)),(kV _ (pt d)),(kNat _ 4),(kEx _ 0),(kExs _ dE 2),(kSt _ 0),(kAny _)]:List (SK (x1 X1))).getD i (kAny _)) rfl k_ (A8.o _ (A6.o.below (Below.drew (b_))) (A5.o.bb_ (Below.drew (b_)))) ?_ ?_
   ·intro i o ho a w hI hout hin
    match i,ho with
    | 0,ho=>cases ho;exact bl_ (.inl rfl) (show (kStr _).p w _ from ⟨s,hout 1 d_,hs⟩) hI
    | 1,ho=>cases ho;exact M0_
    | 2,ho=>cases ho;exact ch_ (k:=1) HC.o (ck_ 1 d_) rfl H1_ rfl hI
    | 3,ho=>cases ho;exact M0_
    | 4,ho=>cases ho;exact bz_ rfl H3_ hI
    | 5,ho=>cases ho;exact ca_ d_ rfl H4_ hI
    | 6,ho=>cases ho;exact bk_ HC.o rfl H5_ hI
    | 7,ho=>cases ho;exact bp_ (n:=4) HC.o rfl H6_ rfl d_ d_ hI
    | 8,ho=>cases ho;obtain ⟨q,hq⟩:=(cr_ (show (kNat _ 4).p w _ from H7_));exact rk_num HC.o rfl hq hI
    | 9,ho=>cases ho;exact rk_bse2 HC.o rfl (bg_ (d':=dE) d_ (show (kEx _ 2).p w _ from H2_)) (bg_ (d':=dE) d_ (show (kEx _ 0).p w _ from H8_)) hI
    | 10,ho=>cases ho;exact rk_bs_0125 rfl rfl (show (kStr _).p w _ from H0_) rfl d_ (show (kExs _ dE 2).p w _ from H9_) d_ d_ (fun _=>.inl d_) hI
    | 11,ho=>cases ho;exact bi_ (fun _ h=>h) Ab A2.o.1 A2.o.2 rfl (hout 4 d_) (show (kSt _ 0).p w _ from H10_) hI
    | q+12,ho=>exact n_ ho
   exact uz_
  have Ai:¬(r:Int)=0:=by omega
  go_upto_region 3 with fail;refine be_ (X:=(x1 X1)) (Inv:=(InvR d b lp X1 Z1 w w (ah_ (0)) pS)) (ks:=fun i=>([(kStr _),(kV _ (pt b)),(kEx _ 2),(kExs _ dE 1),(kSt _ 0),(kAny _)]:List (SK (x1 X1))).getD i (kAny _)) k_ (A8.o _ A6.o A5.o) ?_ ?_
  ·intro i o ho a w hI hout hin
   match i,ho with
   | 0,ho=>cases ho;exact bl_ (.inl rfl) (show (kStr _).p w _ from ⟨s,hout 1 d_,hs⟩) hI
   | 1,ho=>cases ho;exact M0_
   | 2,ho=>cases ho;exact ch_ (k:=1) HC.o (ck_ 1 d_) rfl H1_ rfl hI
   | 3,ho=>cases ho;exact dq_ HC.o rfl (bg_ (d':=dE) d_ (show (kEx _ 2).p w _ from H2_)) hI
   | 4,ho=>cases ho;exact rk_bs_0125 rfl rfl (show (kStr _).p w _ from H0_) rfl d_ (show (kExs _ dE 1).p w _ from H3_) d_ d_ (fun _=>.inr d_) hI
   | 5,ho=>cases ho;exact bi_ (fun _ h=>h) Ab A2.o.1 A2.o.2 rfl (hout 4 d_) (show (kSt _ 0).p w _ from H4_) hI
   | q+6,ho=>exact n_ ho
  exact uz_
 have A6:=A9;have A5:=q_ (Kp.refl (Zm d b) W);go_upto_region 3 with fail;refine be_ (X:=(x1 X1)) (Inv:=(InvR d b lp X1 Z1 w w (ah_ (0)) pS)) (ks:=fun i=>([(kStr _),(kV _ (pt b)),(kEx _ 2),(kExs _ dE 1),(kSt _ 0),(kAny _)]:List (SK (x1 X1))).getD i (kAny _)) k_ (A8.o _ A6.o A5.o) ?_ ?_
 ·intro i o ho a w hI hout hin
  match i,ho with
  | 0,ho=>cases ho;exact bl_ (.inl rfl) (show (kStr _).p w _ from ⟨s,hout 1 d_,hs⟩) hI
  | 1,ho=>cases ho;exact M0_
  | 2,ho=>cases ho;exact ch_ (k:=1) HC.o (ck_ 1 d_) rfl H1_ rfl hI
  | 3,ho=>cases ho;exact dq_ HC.o rfl (bg_ (d':=dE) d_ (show (kEx _ 2).p w _ from H2_)) hI
  | 4,ho=>cases ho;exact rk_bs_0125 rfl rfl (show (kStr _).p w _ from H0_) rfl d_ (show (kExs _ dE 1).p w _ from H3_) d_ d_ (fun _=>.inr d_) hI
  | 5,ho=>cases ho;exact bi_ (fun _ h=>h) Ab A2.o.1 A2.o.2 rfl (hout 4 d_) (show (kSt _ 0).p w _ from H4_) hI
  | q+6,ho=>exact n_ ho
 exact uz_
end Go.Proofs.YtfolidlmgfhkiaaGreat
