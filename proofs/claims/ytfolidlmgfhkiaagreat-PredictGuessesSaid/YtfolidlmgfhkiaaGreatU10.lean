/- Lemmas on functions of the program, under the conditions that each states. -/
import Derived.Test.YtfolidlmgfhkiaaGreatU09
import Derived.Test.YtfolidlmgfhkiaaGreatU08
set_option linter.unusedVariables false
set_option linter.unusedSimpArgs false
set_option maxRecDepth 100000
set_option maxHeartbeats 8000000
namespace Go.Proofs.YtfolidlmgfhkiaaGreat
open Go.RowKit Go.Proofs.Tryz
theorem infoOb:(prog.info? 90).map (fun i=>(i.zero,i.size,i.bytes))=some (some (.agg #[i_ 0,.slice none 0 0]),2,32):=by kernel_rfl
theorem Over_t (X:NP) (K:Nat) (A:OA) (n c:Nat) (L:Nat) (vs:VL) (w:World) (h:SlT w X K objT A n c) (hK:K<=1000000000000) (ht:VTs w X L ae_ vs) (hL:L<=1000000000000) (hX:∀ k,X k->k<w) :
  Calls prog 83 #[.agg #[.slice A n c],.agg vs.toArray] w fun e w'=>RH X (K+2*L) e w'/\Below w w w':=by
 obtain ⟨i0,AV,AY,AZ,B3⟩:=info_parts infoOb;obtain ⟨NA,nn,nc,Ab,A2⟩:=ht.slc (j:=39) (e:=objT) rfl;obtain ⟨WA,wn,wc,Aa,Ae⟩:=ht.slc (j:=38) (e:=ap_) rfl;obtain ⟨DA,dn,dc,Ac,A9⟩:=ht.slc (j:=40) (e:=bm_) rfl;obtain ⟨W,hW,A3,AU,B0,B1,B2⟩:=dw_ w [.slice A n c] 35 vs 65 [.slice none 0 0] 35;have A6:∀ k,k<w.heap.size->¬X k->¬(X k\/(w.heap.size<=k/\k<w.heap.size+3)):=fun k hk h1 h2=>by rcases h2 with h2 | h2;exact h1 h2;omega
 have H:=q_ (h.kept (Y:=fun k=>X k\/(w<=k/\k<w+3)) (Kp.of_below A3) A6 (Nat.le_refl K));have HN:=q_ (A2.kept (Y:=fun k=>X k\/(w<=k/\k<w+3)) (Kp.of_below A3) A6 (Nat.le_refl L));have AN:=q_ (Ae.kept (Y:=fun k=>X k\/(w<=k/\k<w+3)) (Kp.of_below A3) A6 (Nat.le_refl L));have Az:=q_ (A9.kept (Y:=fun k=>X k\/(w<=k/\k<w+3)) (Kp.of_below A3) A6 (Nat.le_refl L));have HW:=q_ A3;have Au:=q_ B0;have Av:=q_ B1;have Aw:=q_ B2;have AW:=h.le;have AX:=A2.le;have A5:=h_ (∀ k,(X k\/(w<=k/\k<w+3))->k<W) (fun k hk=>by rcases hk with hk | hk;have:=hX k hk;omega;omega);have c0:=B0.2.1 0 _ rfl;have f0:=B0.2.2;have As:(w:Nat)+3=W:=by omega
 have AP:=q_ As;have HF:=q_ (And.intro Ab (And.intro Aa Ac));clear h ht hX B0 B1 B2 A3 AU A2 Ae A9 A6 As Ab Aa Ac;go_enter func83,ntmps83;go_upto_region 1 with fail;rw [<-hW];clear hW;have HA:=h_ (SlT W (Wi (fun k=>X k\/(w<=k/\k<w+3)) (Value.slice none 0 0).ownBlock) K objT A n c) (H.o.kept (Kp.refl _ _) (fun k _ h h2=>by rcases h2 with h2 | h2;exact h h2;cases h2) (Nat.le_refl K));go_upto_region 2 with (at_builtin;refine ao_ rfl _ _ 33 rfl W 90 i0 _ 32 objT (fun k=>X k\/(w<=k/\k<w+3)) K underlying33 AV AY AZ B3 rfl d_ none 0 0 zb_ (OwT.nil _ _ _ _ _ _) A n c zb_ HA.o A5.o m_ o_ (l_) ?_;intro A4 c4 w4 o4 g4 l4;rw [Nat.zero_add] at o4 l4 ⊢;have b4:Below W W w4:=ak_ g4 (l_) (fun k hk=>by cases hk);have O4:=q_ (o4.slT A5.o AW);have BX:=q_ (Au.o.below b4);have m0:=BX.o.2.1 0 _ rfl;have m1:=BX.o.2.2;have B4:=q_ b4;clear o4 l4 g4 c0 f0 b4);obtain ⟨U,hU⟩:=ex_ (w4.setCell (a_ w) (.slice A4 n c4));have zW:=AP.o;have AA:=h_ (Kp (fun k=>k=w) W U) xj_;have AH:=h_ (SlT U (fun k=>X k\/(w<=k/\k<w+3)) (K+L) objT A4 n c4) xf_;have AJ:=h_ (Bx U w [.slice A4 n c4]) vc_;have An:=h_ (Bx U (w+1) vs) (by rw [hU];exact (Av.o.below B4.o).far z3_ _);have AI:=h_ (Bx U (w+2) [.slice none 0 0]) (by rw [hU];exact (Aw.o.below B4.o).far ye_ _);rw [<-hU];have B5:=An.o.2.1 39 _ HF.o.1;clear hU m0 m1;go_upto_region 3 with fail;clear B5;go_loopw [14] (fun i wr=>∃ (k:Nat) (C:OA) (q d:Nat),k<=nn/\i=i_ k/\Hid (SlT wr (fun k=>X k\/(w<=k/\k<w+3)) (K+L+k) objT C q d)/\Hid (Bx wr w [.slice C q d])/\Hid (Bx wr (w+1) vs)/\Hid (Bx wr (w+2) [.slice none 0 0])/\Hid (Kp (fun k=>k=w) W wr)) (fun i _=>nn - (intOf i).toNat)
 case atStart=>exact ⟨0,A4,n,c4,o_,rfl,AH,AJ,An,AI,AA⟩
 obtain ⟨k,C,q,d,hk,rfl,hC,Ah,A8,Ag,Ai⟩:=hrel;have B7:=Ai.o.size;have Ad:Kp (fun k=>X k\/(w<=k/\k<w+3)) W wr:=Ai.o.mono (fun k _ h=>.inr ⟨o_,o_⟩);by_cases hlt:k<nn
 ·have Am:(k:Int)<(nn:Int):=by omega
  obtain ⟨g,o,rfl,hg,x,Aq,Ar,hx⟩:=(HN.o.up Ad (Nat.le_refl L)).obj_at hlt;obtain ⟨c4,c5⟩:=hx wr (b_);obtain ⟨V,hV,A0,AT,V0⟩:=af_ wr [i_ x.id,.slice x.A x.n x.c] 90;have v0:=V0.2.1 0 _ rfl;have v1:=V0.2.1 1 _ rfl;have c8:=(Ah.o.below A0).2.1 0 _ rfl;have AM:=q_ (Ah.o.below A0);have AL:=q_ (A8.o.below A0);have AK:=q_ (Ag.o.below A0);have Ax:=q_ (hC.o.up (Kp.of_below A0) (l_));have AB:=q_ (Ai.o.trans (.of_below A0));have AD:=q_ (Aq.up (Kp.of_below A0) (show L<=K+L+k by omega));have AE:=q_ (Ar.up A0);have B6:=A0.size;clear hx Aq Ar Ad A0 AT V0;go_upto_region 5 with fail;rw [<-hV];clear hV c4 c5;go_wp2_with fail;refine (Put_t (fun k=>X k\/(w<=k/\k<w+3)) (K+L+k) C q d x V Ax.o AD.o AE.o o_ (fun k hk=>by have:=A5.o k hk;omega)).mono ?_;rintro e Z ⟨⟨C2,q2,d3,rfl,Ak⟩,hZ⟩;have Aj:=q_ (AM.o.below hZ);have AR:=q_ (AL.o.below hZ);have AQ:=q_ (AK.o.below hZ);have AC:=q_ (AB.o.trans (.of_below hZ));have y0:=Aj.o.2.1 0 _ rfl;have y1:=Aj.o.2.2;clear hZ c8 v0 v1;go_wp2;go_roundw
  case rel=>exact ⟨k+1,C2,q2,d3,o_,zc_,q_ (Ak.o.up ((Kp.refl _ Z).setCell (.inl (.inr ⟨l_,xz_⟩)) _) o_),q_ (Aj.o.set 0 _),q_ (AR.o.far z3_ _),q_ (AQ.o.far ye_ _),q_ (AC.o.setCell (.inl rfl) _)⟩
  case measure=>exact me_
 have Am:¬(k:Int)<(nn:Int):=by omega
 have Ap:=AN.o.up Ad (Nat.le_refl L);have Ao:=Az.o.up Ad (Nat.le_refl L);have AO:=q_ Ap;have Ay:=q_ Ao;have KS:=h_ (∀ w',Below wr wr w'->(w'.cell? (a_ w)=some (.slice C q d)/\w'.cell? (f_ (w+1) 38)=some (.slice WA wn wc)/\w'.cell? (f_ (w+1) 40)=some (.slice DA dn dc))) (fun w' hb=>⟨(Ah.o.below hb).2.1 0 _ rfl,(A8.o.below hb).2.1 38 _ HF.o.2.1,(A8.o.below hb).2.1 40 _ HF.o.2.2⟩);have Al:Below wr wr wr.drew:=Below.drew (b_);have Af:=q_ Al;obtain ⟨s0,s1,s2⟩:=KS.o wr.drew Al;clear Al Ad Ap Ao;go_wp2_with fail;go_region_held3 (fun w':World=>w'.cell? (a_ w)=some (.slice C q d)/\w'.cell? (f_ (w+1) 38)=some (.slice WA wn wc)/\w'.cell? (f_ (w+1) 40)=some (.slice DA dn dc))
  (first | (refine KS.o _ ?_;(first | (with_reducible exact Af.o) | (with_reducible exact A1) | (with_reducible exact A7));done) | exact KR.o)
  (first
   | (go_at_call 135;refine (Written_t (fun k=>X k\/(w<=k/\k<w+3)) (K+L+k) C q d L WA wn wc wr.drew (hC.o.up (Kp.of_below Af.o) (l_)) o_ (AO.o.up (Kp.of_below Af.o) (l_)) o_ (fun k hk=>by have:=A5.o k hk;have:(wr.drew:Nat)=wr:=rfl;omega)).mono ?_;rintro e S ⟨⟨C2,q2,d3,rfl,Ak⟩,hS⟩;have A7:Below wr wr S:=Af.o.trans hS;clear hS)
   | (go_at_call 134;refine (Reduced_t (fun k=>X k\/(w<=k/\k<w+3)) (K+L+k) C2 q2 d3 L DA dn dc S Ak.o o_ (Ay.o.up (Kp.of_below A7) (l_)) o_ (fun k hk=>by have:=A5.o k hk;have:=A7.size;omega)).mono ?_;rintro e R ⟨⟨C3,q3,d4,rfl,AS⟩,hR⟩;have A1:Below wr wr R:=A7.trans (hR.mono A7.size);clear hR;have KR:=h_ (((R.setCell ⟨w+1+1,0,none⟩ (.slice C3 q3 d4)).cell? (a_ w)=some (.slice C q d)/\(R.setCell ⟨w+1+1,0,none⟩ (.slice C3 q3 d4)).cell? (f_ (w+1) 38)=some (.slice WA wn wc)/\(R.setCell ⟨w+1+1,0,none⟩ (.slice C3 q3 d4)).cell? (f_ (w+1) 40)=some (.slice DA dn dc))) (⟨((Ah.o.below A1).far x8_ _).2.1 0 _ rfl,((A8.o.below A1).far vd_ _).2.1 38 _ HF.o.2.1,((A8.o.below A1).far vd_ _).2.1 40 _ HF.o.2.2⟩);have AF:=q_ (Ag.o.below A1);have AG:=q_ A1;have r0:=(Ag.o.below A1).2.1 0 _ rfl;have r1:=(Ag.o.below A1).2.2))
 go_wp2;refine retC results83 zd_ underlying35 rfl k_ (cs:=[_]) (AF.o.set 0 _).whole rfl ?_;have hb:Below w w (R.setCell ⟨w+1+1,0,none⟩ (.slice C3 q3 d4)):=((HW.o.trans (Ai.o.below (B:=w) o_ (fun k hk h=>o_))).trans (AG.o.mono o_)).setCell y9_ _;exact ⟨⟨_,_,_,rfl,q_ ((AS.o.up ((Kp.refl _ R).setCell (.inl (.inr ⟨y9_,ve_⟩)) _) (show K+L+k<=K+2*L by omega)).kept (Kp.refl _ _) (fun k _ h h2=>h (.inl h2)) (l_))⟩,hb⟩
theorem mex_step (k:Nat) (hk:k<=2) (hE:∀ j,k=j+1->ExprOK j):ExprOK k:=by
 intro d b lp X w hM hz Ae;obtain ⟨W,hW,Ab,Ak,B0⟩:=af_ w [i_ 0,i_ 0,.string ⟨#[]⟩,i_ 0,.slice none 0 0] 209;have A6:=hM.below Ab;have A7:b<w:=hM.lt;obtain ⟨X1,A8⟩:∃ X1:NP,X1=fun q=>X q\/q=w:=⟨_,rfl⟩
 obtain ⟨Z1,Aa⟩:∃ Z1:NP,Z1=fun q=>Zm d b q\/q=w:=⟨_,rfl⟩
 have A2:=h_ (X1 w/\Z1 w) (⟨by rw [A8];exact .inr rfl,by rw [Aa];exact .inr rfl⟩);have Ad:InvR d b lp X1 Z1 w w (be_ (k+1)) pE W:=⟨A6,.of_below Ab,fun q hq=>by rw [A8] at hq;rcases hq with hq | hq;(have:=Ae q hq;omega);omega,_,B0,vts_ex (SlP.nil _ _ _ _ _),pE_ex x_ x_ d_⟩;have hC:IC d b lp (x1 X1) (InvR d b lp X1 Z1 w w (be_ (k+1)) pE):=InvR.ic (fun _ _ _ h=>h) (fun q hq=>by rw [A8];exact .inl (hz q hq)) (fun q hq=>by rw [Aa];exact .inl hq) hM.nz;have HC:=q_ hC;have A3:=h_ (∀ w',Mk d b lp w'->Kp (Zm d b) W w'->InvR d b lp X1 Z1 w w (be_ (k+1)) pE w') (fun w' h1 h2=>hC.up W w' Ad h1 h2);have A0:=h_ (∀ (a:Act) (w2:World),InvR d b lp X1 Z1 w w (be_ (k+1)) pE w2->a.defers=[]->a.tmps.getD 4 undef=.pointer (some (a_ w))->bodyPost prog f114 (fun e w'=>RE X (k+1) e w'/\Md d b lp w w') .ret a w2) (fun a w2 hI A1 ha=>by
  obtain ⟨cs,g1,g2,g3⟩:=hI.bx
  obtain ⟨kd,n,s,op,A,m,c,rfl,_⟩:=g2.expr
  refine retC results114 ha underlying209 rfl (cs:=exL kd n s op A m c) isz5 g1.whole A1 ⟨⟨_,_,_,_,_,_,_,rfl,q_ ⟨g2.less (fun q _ hq=>by rw [A8];exact .inl hq),g3⟩⟩,hI.ok,hI.kp.mono (fun q hq Af=>?_)⟩
  rw [Aa] at Af
  rcases Af with h | h
  ·exact h
  omega)
 have HE:=q_ hE;have c0:=A6.c0;have Al:=A6.lt;have HD:=q_ A6.dice;have Ag:=q_ A6;clear hM hz Ae B0 Ab A6 Ad hC Ak A8 Aa hE;go_enter func114,ntmps114;go_upto_region 1 with fail;rw [<-hW];clear hW;go_upto_region 2 with (go_at_call 26;refine (bo_ d 12 W HD.o d_ d_).mono ?_;rintro e w1 ⟨r,hr,rfl,ht,_⟩);have A5:=q_ (Ag.o.thrown ht);have A4:=q_ (ht.kp b);clear c0 Al ht;by_cases h4:r<4
 ·have Ah:(r:Int)<4:=by omega
  go_upto_region 3 with fail;refine bh_ (X:=(x1 X1)) (Inv:=(InvR d b lp X1 Z1 w w (be_ (k+1)) pE)) (ks:=fun i=>([(kV _ (pt b)),(kV _ (pt b)),(kV _ (pt b)),(kV _ (pt d)),(kNat _ 9),(kInt _),(kEx _ 0),(kAny _)]:List (SK (x1 X1))).getD i (kAny _)) k_ (A3.o _ A5.o A4.o) ?_ ?_
  ·intro i o ho a w hI hout hin
   match i,ho with
   | 0,ho=>cases ho;exact M0_
   | 1,ho=>cases ho;exact cd_ rfl H0_ hI
   | 2,ho=>cases ho;exact cc_ d_ rfl H1_ hI
   | 3,ho=>cases ho;exact bl_ HC.o rfl H2_ hI
   | 4,ho=>cases ho;exact br_ (n:=9) HC.o rfl H3_ rfl d_ d_ hI
   | 5,ho=>cases ho;exact rk_sub (.inl rfl) rfl (cx_ (show (kNat _ 9).p w _ from H4_)) ⟨_,rfl⟩ hI
   | 6,ho=>cases ho;obtain ⟨q,hq⟩:=(show (kInt _).p w _ from H5_);exact rk_num HC.o rfl hq hI
   | 7,ho=>cases ho;exact df_ (fun _ h=>h) A7 A2.o.1 A2.o.2 rfl (hout 4 d_) (bj_ (d':=k+1) o_ (show (kEx _ 0).p w _ from H6_)) hI
   | q+8,ho=>exact n_ ho
  exact v9_
 have Ah:¬(r:Int)<4:=by omega
 by_cases h8:r<8
 ·have Aj:(r:Int)<8:=by omega
  go_upto_region 5 with fail;refine dr_ (X:=(x1 X1)) (Inv:=(InvR d b lp X1 Z1 w w (be_ (k+1)) pE)) (ks:=fun i=>([(bu_ _ 5),(kV _ (pt b)),(kV _ (pt b)),(kV _ (pt b)),(kV _ (pt d)),(bu_ _ 5),(kV _ (i_ (5:Nat))),(kNat _ 5),(dj_ _),(kStr _),(kEx _ 0),(kAny _)]:List (SK (x1 X1))).getD i (kAny _)) rfl k_ (A3.o _ (A5.o.below (Below.drew (b_))) (A4.o.ba_ (Below.drew (b_)))) ?_ ?_
  ·intro i o ho a w hI hout hin
   match i,ho with
   | 0,ho=>cases ho;exact rk_names HC.o rfl hI
   | 1,ho=>cases ho;exact M0_
   | 2,ho=>cases ho;exact cd_ rfl H1_ hI
   | 3,ho=>cases ho;exact cc_ d_ rfl H2_ hI
   | 4,ho=>cases ho;exact bl_ HC.o rfl H3_ hI
   | 5,ho=>cases ho;exact rk_names HC.o rfl hI
   | 6,ho=>cases ho;exact rk_len rfl (show (bu_ _ 5).p w _ from H5_) hI
   | 7,ho=>cases ho;exact br_ (n:=5) HC.o rfl H4_ H6_ d_ d_ hI
   | 8,ho=>cases ho;exact rk_idx (n:=5) rfl (show (bu_ _ 5).p w _ from H0_) (show (kNat _ 5).p w _ from H7_) hI
   | 9,ho=>cases ho;exact er_ rfl (show (dj_ _).p w _ from H8_) hI
   | 10,ho=>cases ho;exact eq_ HC.o rfl (show (kStr _).p w _ from H9_) hI
   | 11,ho=>cases ho;exact df_ (fun _ h=>h) A7 A2.o.1 A2.o.2 rfl (hout 4 d_) (bj_ (d':=k+1) o_ (show (kEx _ 0).p w _ from H10_)) hI
   | q+12,ho=>exact n_ ho
  exact v9_
 have Aj:¬(r:Int)<8:=by omega
 cases k with
 | zero =>
  go_upto_region 5 with fail;refine dr_ (X:=(x1 X1)) (Inv:=(InvR d b lp X1 Z1 w w (be_ (0+1)) pE)) (ks:=fun i=>([(bu_ _ 5),(kV _ (pt b)),(kV _ (pt b)),(kV _ (pt b)),(kV _ (pt d)),(bu_ _ 5),(kV _ (i_ (5:Nat))),(kNat _ 5),(dj_ _),(kStr _),(kEx _ 0),(kAny _)]:List (SK (x1 X1))).getD i (kAny _)) rfl k_ (A3.o _ (A5.o.below (Below.drew (b_))) (A4.o.ba_ (Below.drew (b_)))) ?_ ?_
  ·intro i o ho a w hI hout hin
   match i,ho with
   | 0,ho=>cases ho;exact rk_names HC.o rfl hI
   | 1,ho=>cases ho;exact M0_
   | 2,ho=>cases ho;exact cd_ rfl H1_ hI
   | 3,ho=>cases ho;exact cc_ d_ rfl H2_ hI
   | 4,ho=>cases ho;exact bl_ HC.o rfl H3_ hI
   | 5,ho=>cases ho;exact rk_names HC.o rfl hI
   | 6,ho=>cases ho;exact rk_len rfl (show (bu_ _ 5).p w _ from H5_) hI
   | 7,ho=>cases ho;exact br_ (n:=5) HC.o rfl H4_ H6_ d_ d_ hI
   | 8,ho=>cases ho;exact rk_idx (n:=5) rfl (show (bu_ _ 5).p w _ from H0_) (show (kNat _ 5).p w _ from H7_) hI
   | 9,ho=>cases ho;exact er_ rfl (show (dj_ _).p w _ from H8_) hI
   | 10,ho=>cases ho;exact eq_ HC.o rfl (show (kStr _).p w _ from H9_) hI
   | 11,ho=>cases ho;exact df_ (fun _ h=>h) A7 A2.o.1 A2.o.2 rfl (hout 4 d_) (bj_ (d':=0+1) o_ (show (kEx _ 0).p w _ from H10_)) hI
   | q+12,ho=>exact n_ ho
  exact v9_
 | succ k =>
 have Ac:=q_ (HE.o k rfl);have An:¬((k+1:Nat):Int)=0:=by omega
 by_cases h88:r=8
 ·subst h88;go_upto_region 7 with fail;refine dr_ (X:=(x1 X1)) (Inv:=(InvR d b lp X1 Z1 w w (be_ ((k+1)+1)) pE)) (ks:=fun i=>([(kV _ (pt b)),(kV _ (pt b)),(kV _ (pt b)),(kV _ (pt d)),(kNat _ 3),(bu_ _ 2),(kV _ (pt b)),(kV _ (pt b)),(kV _ (pt b)),(kV _ (pt d)),(kNat _ 2),(dj_ _),(kStr _),(kEx _ 0),(kExs _ 0 1),(kEx _ 1),(kAny _)]:List (SK (x1 X1))).getD i (kAny _)) rfl k_ (A3.o _ (A5.o.below (Below.drew (b_))) (A4.o.ba_ (Below.drew (b_)))) ?_ ?_
  ·intro i o ho a w hI hout hin
   match i,ho with
   | 0,ho=>cases ho;exact M0_
   | 1,ho=>cases ho;exact cd_ rfl H0_ hI
   | 2,ho=>cases ho;exact cc_ d_ rfl H1_ hI
   | 3,ho=>cases ho;exact bl_ HC.o rfl H2_ hI
   | 4,ho=>cases ho;exact br_ (n:=3) HC.o rfl H3_ rfl d_ d_ hI
   | 5,ho=>cases ho;exact rk_bst2 HC.o rfl d_ d_ hI
   | 6,ho=>cases ho;exact M0_
   | 7,ho=>cases ho;exact cd_ rfl H6_ hI
   | 8,ho=>cases ho;exact cc_ d_ rfl H7_ hI
   | 9,ho=>cases ho;exact bl_ HC.o rfl H8_ hI
   | 10,ho=>cases ho;exact br_ (n:=2) HC.o rfl H9_ rfl d_ d_ hI
   | 11,ho=>cases ho;exact rk_idx (n:=2) rfl (show (bu_ _ 2).p w _ from H5_) (show (kNat _ 2).p w _ from H10_) hI
   | 12,ho=>cases ho;exact er_ rfl (show (dj_ _).p w _ from H11_) hI
   | 13,ho=>cases ho;exact eq_ HC.o rfl (show (kStr _).p w _ from H12_) hI
   | 14,ho=>cases ho;exact du_ HC.o rfl (show (kEx _ 0).p w _ from H13_) hI
   | 15,ho=>cases ho;exact rk_be3 rfl (cx_ (show (kNat _ 3).p w _ from H4_)) (show (kExs _ 0 1).p w _ from H14_) hI
   | 16,ho=>cases ho;exact df_ (fun _ h=>h) A7 A2.o.1 A2.o.2 rfl (hout 4 d_) (bj_ (d':=(k+1)+1) o_ (show (kEx _ 1).p w _ from H15_)) hI
   | q+17,ho=>exact n_ ho
  exact v9_
 have Ai:¬(r:Int)=8:=by omega
 by_cases h9:r=9
 ·subst h9;go_upto_region 9 with fail;refine bh_ (X:=(x1 X1)) (Inv:=(InvR d b lp X1 Z1 w w (be_ ((k+1)+1)) pE)) (ks:=fun i=>([(kV _ (pt b)),(kV _ (pt b)),(kV _ (pt b)),(kV _ (pt d)),(kNat _ 4),(kEx _ 0),(kAny _)]:List (SK (x1 X1))).getD i (kAny _)) k_ (A3.o _ A5.o A4.o) ?_ ?_
  ·intro i o ho a w hI hout hin
   match i,ho with
   | 0,ho=>cases ho;exact M0_
   | 1,ho=>cases ho;exact cd_ rfl H0_ hI
   | 2,ho=>cases ho;exact cc_ d_ rfl H1_ hI
   | 3,ho=>cases ho;exact bl_ HC.o rfl H2_ hI
   | 4,ho=>cases ho;exact br_ (n:=4) HC.o rfl H3_ rfl d_ d_ hI
   | 5,ho=>cases ho;exact rk_be1 rfl d_ (cx_ (show (kNat _ 4).p w _ from H4_)) hI
   | 6,ho=>cases ho;exact df_ (fun _ h=>h) A7 A2.o.1 A2.o.2 rfl (hout 4 d_) (bj_ (d':=(k+1)+1) o_ (show (kEx _ 0).p w _ from H5_)) hI
   | q+7,ho=>exact n_ ho
  exact v9_
 have Am:¬(r:Int)=9:=by omega
 go_upto_region 10 with fail;refine bh_ (X:=(x1 X1)) (Inv:=(InvR d b lp X1 Z1 w w (be_ ((k+1)+1)) pE)) (ks:=fun i=>([(kV _ (pt b)),(kV _ (pt b)),(kV _ (pt b)),(kV _ (pt d)),(kNat _ 11),(kInt _),(kV _ (pt b)),(kV _ (i_ ((k)+1:Nat))),(kV _ (i_ (k:Nat))),(kEx _ (k+1)),(kV _ (pt b)),(kV _ (i_ ((k)+1:Nat))),(kV _ (i_ (k:Nat))),(kEx _ (k+1)),(kEx _ ((k+1)+1)),(kAny _)]:List (SK (x1 X1))).getD i (kAny _)) k_ (A3.o _ A5.o A4.o) ?_ ?_
 ·intro i o ho a w hI hout hin
  match i,ho with
  | 0,ho=>cases ho;exact M0_
  | 1,ho=>cases ho;exact cd_ rfl H0_ hI
  | 2,ho=>cases ho;exact cc_ d_ rfl H1_ hI
  | 3,ho=>cases ho;exact bl_ HC.o rfl H2_ hI
  | 4,ho=>cases ho;exact br_ (n:=11) HC.o rfl H3_ rfl d_ d_ hI
  | 5,ho=>cases ho;exact rk_add (.inl rfl) rfl ⟨_,rfl⟩ (cx_ (show (kNat _ 11).p w _ from H4_)) hI
  | 6,ho=>cases ho;exact M0_
  | 7,ho=>cases ho;exact bn_ (.inl rfl) (show (kV _ (i_ ((k)+1:Nat))).p w _ from (hout 1 d_)) hI
  | 8,ho=>cases ho;exact rk_dec (n:=k) rfl H7_ o_ hI
  | 9,ho=>cases ho;exact ck_ (k:=k) HC.o Ac.o rfl H6_ H8_ hI
  | 10,ho=>cases ho;exact M0_
  | 11,ho=>cases ho;exact bn_ (.inl rfl) (show (kV _ (i_ ((k)+1:Nat))).p w _ from (hout 1 d_)) hI
  | 12,ho=>cases ho;exact rk_dec (n:=k) rfl H11_ o_ hI
  | 13,ho=>cases ho;exact ck_ (k:=k) HC.o Ac.o rfl H10_ H12_ hI
  | 14,ho=>cases ho;exact rk_bin HC.o rfl (show (kInt _).p w _ from H5_) (show (kEx _ (k+1)).p w _ from H9_) (show (kEx _ (k+1)).p w _ from H13_) hI
  | 15,ho=>cases ho;exact df_ (fun _ h=>h) A7 A2.o.1 A2.o.2 rfl (hout 4 d_) (show (kEx _ ((k+1)+1)).p w _ from H14_) hI
  | q+16,ho=>exact n_ ho
 exact v9_
end Go.Proofs.YtfolidlmgfhkiaaGreat
namespace Go.Proofs.YtfolidlmgfhkiaaGreat.Pr
open Go.RowKit Go.Proofs.Tryz
theorem refguesses_f (A:OA) (n c:Nat) (ts:List Trk) (s fr m:Int) (w:World) (hs:Sl w w 5 Trk.cells A n ts) (hsort:Sorted ts) (hn:n<=1000000) :
  Calls prog 23 #[.agg #[.slice A n c],i_ s,i_ fr,i_ m,.bool false] w (GivesC (guessP ts s fr m false) w):=by
 obtain ⟨i0,hi,Az,AA,AB⟩:=info_parts infoCl;obtain ⟨W,hW,Al,Am,B0⟩:=af_ w [.slice A n c] 59;have q0:=B0.2.1 0 _ rfl;have An:=q_ B0;have Ac:=q_ Al;have As:=q_ Am;have Aq:=q_ hs;have AD:=q_ hsort;clear B0 Al Am hs hsort q0;go_enter func23,ntmps23;go_upto_region 1 with fail;rw [<-hW];clear hW;by_cases hm1:1<=m
 case neg =>
  have hm:m<1:=by omega
  exact tu_
 case pos =>
 by_cases hm2:m<=64
 case neg =>
  have Ax:¬m<1:=by omega
  have hm:64<m:=by omega
  exact tt_
 case pos =>
 obtain ⟨mm,rfl⟩:∃ mm:Nat,m=mm:=⟨m.toNat,o_⟩;have Ax:¬(mm:Int)<1:=by omega
 have AE:¬(64:Int)<(mm:Int):=by omega
 have Ap:=h_ (W.ownsRow (w+1) 87 4 (.slice none 0 0) (as_ ts s fr false 0).length ((as_ ts s fr false 0).flatMap Cl.cells)) (World.ownsRow_nil _ _ _ _);go_wp2_with fail;go_loopw [11,12] (fun v i wr=>∃ k:Nat,k<=mm/\i=i_ (3+(k:Int))/\Hid (bv_ s 3=false->k=0)/\Hid (wr.ownsRow (w+1) 87 4 v (as_ ts s fr false k).length ((as_ ts s fr false k).flatMap Cl.cells))/\Hid (Below (w+1) W wr)) (fun _ i _=>3+mm - (intOf i).toNat)
 case atStart=>exact ⟨0,Nat.zero_le _,rfl,q_ (fun _=>rfl),Ap,q_ (b_)⟩
 obtain ⟨k,hk,rfl,h0,hO,hb⟩:=hrel;have A8:=q_ (Ac.o.trans (hb.o.mono o_));have hsz:(w:Nat)+1<=wr:=by have:=hb.o.size;have:=As.o;omega
 by_cases hlt:k<mm
 case neg =>
  have Ay:IntKind.i64.wrap (3+(mm:Int))=3+(mm:Int):=by rw [IntKind.wrap_i64];omega
  have Aw:¬(3:Int)+(k:Int)<3+(mm:Int):=by omega
  obtain rfl:k=mm:=by omega
  have A1:bv_ s 3=true:=by
   cases h:bv_ s 3
   ·have:=h0.o h;omega
   rfl
  obtain ⟨A',c',hv⟩:∃ A' c',u11=.slice A' (as_ ts s fr false k).length c':=by
   rcases hO.o.2 with ⟨h,h9⟩ | ⟨g,cap,cur,h,_⟩
   ·exact ⟨none,0,vn_⟩
   exact ⟨_,_,h⟩
  exact tg_
 case pos =>
 have Ay:IntKind.i64.wrap (3+(mm:Int))=3+(mm:Int):=by rw [IntKind.wrap_i64];omega
 have Aw:(3:Int)+(k:Int)<3+(mm:Int):=by omega
 have AG:IntKind.i64.wrap (3+(k:Int)+1)=3+(k:Int)+1:=by rw [IntKind.wrap_i64];omega
 have AF:IntKind.i64.wrap (3+(k:Int))=3+(k:Int):=by rw [IntKind.wrap_i64];omega
 go_wp2_with fail;refine (refkey_any s (3+(k:Int)) wr).mono ?_;rintro e w2 ⟨rfl,A5⟩;have A4:=q_ (A8.o.trans (A5.mono A8.o.size));have Aa:=q_ (hb.o.trans (A5.mono hsz));have Aj:=q_ (own_below hO.o A5);have A2:(w:Nat)+1<=w2:=Nat.le_trans hsz A5.size;clear A5 hb hO hsz A8;cases A1:bv_ s 3
 case false =>
  exact u9_
 case true =>
 rw [keyV_yes yr_];have Ak:=q_ A1;have q0:=(belc Aa.o (b:=w) (o:=0) o_).trans (An.o.2.1 0 _ rfl);have Ab:=reflast_any A n c ts (kOf s (3+(k:Int))) w2 (Aq.o.up A4.o) hn;unfold Val.value at Ab;have Ag:=q_ Ab;clear Ab A1;go_wp2_with fail;refine Ag.o.mono ?_;rintro e w3 ⟨rfl,A6⟩;have AC:=q_ (A4.o.trans (A6.mono A4.o.size));have Af:=q_ (Aa.o.trans (A6.mono A2));have A9:=q_ (own_below Aj.o A6);have Ad:(w:Nat)+1<=w3:=Nat.le_trans A2 A6.size;obtain ⟨x,hx⟩:=ex_ (lastV ts (kOf s (3+(k:Int))));rw [<-hx];have Au:=h_ (x=sayV ts false (kOf s (3+(k:Int)))) hx;clear q0 A6 A4 Aa Aj Ag hx A2;obtain ⟨l,hl⟩:=ex_ (as_ ts s fr false k);rw [<-hl] at A9;have Ai:=q_ hl;have Ah:=h_ (l.length<=k) xb_;clear hl;cases hh:hit ts (kOf s (3+(k:Int)))
 case false =>
  have HG:=h_ (as_ ts s fr false (k+1)=l) (by rw [guess_no hh,Ai.o]);clear hh;go_wp2_with fail;go_roundw
  case rel=>exact ⟨k+1,o_,by first | go_num | (congr 1;omega) | (simp;omega),q_ (fun h=>by rw [Ak.o] at h;cases h),q_ xu_,q_ ((bel Af.o))⟩
  case measure=>simp [intOf] <;> omega
 case true =>
 have HG:=h_ (as_ ts s fr false (k+1)=l ++ [⟨fr,3+(k:Int),x⟩]) (by rw [guess_yes hh,Ai.o,Au.o]);clear hh;have Ae:=q_ ((bel (Below.refl w3 w3)):Below w3 w3 ((w3.alloc (.cells #[.bool x.ref,i_ x.n] 38)).alloc (.cells #[i_ fr,i_ (3+(k:Int)),.bool x.ref,i_ x.n] 87)));have Ao:=h_ (∀ ad,(some (a_ (w3+1)):OA)=some ad->∀ (j:Nat) (u:Value),(Cl.cells ⟨fr,3+(k:Int),x⟩)[j]?=some u->((w3.alloc (.cells #[.bool x.ref,i_ x.n] 38)).alloc (.cells #[i_ fr,i_ (3+(k:Int)),.bool x.ref,i_ x.n] 87)).cell? (ad.add j)=some u) (fun ad h j u hu=>by
  injection h with h
  subst h
  rw [Addr.add_lit,ay_ _ _ _ _ _ t_,Nat.zero_add,List.getElem?_toArray]
  exact hu)
 go_wp2_with (at_builtin;refine av_ rfl _ _ 54 rfl (w+1) 87 i0 _ 4 32 underlying54 hi Az AA AB rfl d_ u11 l.length (l.flatMap Cl.cells) rfl (own_below A9.o Ae.o) (some (a_ (w3+1))) 1 1 (Cl.cells ⟨fr,3+(k:Int),x⟩) rfl yq_ rfl Ao.o xk_ w0_ wh_ za_ ?_;intro A3 c3 w4 A0 A7 _);have Ar:=q_ A0;have Av:Below (w+1) w3 w4:=(Ae.o.mono Ad).grown A7 za_ (fun k hk=>(A9.o.lt k hk).1);clear A0 A7;go_roundw
 case rel=>exact ⟨k+1,o_,by first | go_num | (congr 1;omega) | (simp;omega),q_ (fun h=>by rw [Ak.o] at h;cases h),q_ (by rw [HG.o,List.length_append,List.flatMap_append];simpa using Ar.o),q_ (Af.o.trans Av)⟩
 case measure=>simp [intOf] <;> omega
theorem refguesses_t (A:OA) (n c:Nat) (ts:List Trk) (s fr m:Int) (w:World) (hs:Sl w w 5 Trk.cells A n ts) (hsort:Sorted ts) (hn:n<=1000000) :
  Calls prog 23 #[.agg #[.slice A n c],i_ s,i_ fr,i_ m,.bool true] w (GivesC (guessP ts s fr m true) w):=by
 obtain ⟨i0,hi,AS,AT,AU⟩:=info_parts infoCl;obtain ⟨W,hW,AH,AI,B0⟩:=af_ w [.slice A n c] 59;have q0:=B0.2.1 0 _ rfl;have Aw:=q_ B0;have Ar:=q_ AH;have AN:=q_ AI;have AE:=q_ hs;have AV:=q_ hsort;clear B0 AH AI hs hsort q0;go_enter func23,ntmps23;go_upto_region 1 with fail;rw [<-hW];clear hW;by_cases hm1:1<=m
 case neg =>
  have hm:m<1:=by omega
  go_wp2_with fail;go_ret;exact ⟨none,0,0,rfl,yy_,Ar.o⟩
 case pos =>
 by_cases hm2:m<=64
 case neg =>
  have AQ:¬m<1:=by omega
  have hm:64<m:=by omega
  go_wp2_with fail;go_ret;exact ⟨none,0,0,rfl,yo_,Ar.o⟩
 case pos =>
 obtain ⟨mm,rfl⟩:∃ mm:Nat,m=mm:=⟨m.toNat,o_⟩;have AQ:¬(mm:Int)<1:=by omega
 have AW:¬(64:Int)<(mm:Int):=by omega
 have AL:=h_ (W.ownsRow (w+1) 87 4 (.slice none 0 0) (as_ ts s fr true 0).length ((as_ ts s fr true 0).flatMap Cl.cells)) (World.ownsRow_nil _ _ _ _);go_wp2_with fail;go_loopw [11,12] (fun v i wr=>∃ k:Nat,k<=mm/\i=i_ (3+(k:Int))/\Hid (bv_ s 3=false->k=0)/\Hid (wr.ownsRow (w+1) 87 4 v (as_ ts s fr true k).length ((as_ ts s fr true k).flatMap Cl.cells))/\Hid (Below (w+1) W wr)) (fun _ i _=>3+mm - (intOf i).toNat)
 case atStart=>exact ⟨0,Nat.zero_le _,rfl,q_ (fun _=>rfl),AL,q_ (b_)⟩
 obtain ⟨k,hk,rfl,h0,hO,hb⟩:=hrel;have Al:=q_ (Ar.o.trans (hb.o.mono o_));have hsz:(w:Nat)+1<=wr:=by have:=hb.o.size;have:=AN.o;omega
 by_cases hlt:k<mm
 case neg =>
  have AR:IntKind.i64.wrap (3+(mm:Int))=3+(mm:Int):=by rw [IntKind.wrap_i64];omega
  have AP:¬(3:Int)+(k:Int)<3+(mm:Int):=by omega
  obtain rfl:k=mm:=by omega
  have Ab:bv_ s 3=true:=by
   cases h:bv_ s 3
   ·have:=h0.o h;omega
   rfl
  obtain ⟨A',c',hv⟩:∃ A' c',u11=.slice A' (as_ ts s fr true k).length c':=by
   rcases hO.o.2 with ⟨h,h9⟩ | ⟨g,cap,cur,h,_⟩
   ·exact ⟨none,0,vn_⟩
   exact ⟨_,_,h⟩
  subst hv;go_wp2_with fail;go_ret;exact ⟨A',_,c',rfl,by rw [guess_in o_ o_ Ab];exact Sl.cs_ Cl.size rfl hO.o,Al.o⟩
 case pos =>
 have AR:IntKind.i64.wrap (3+(mm:Int))=3+(mm:Int):=by rw [IntKind.wrap_i64];omega
 have AP:(3:Int)+(k:Int)<3+(mm:Int):=by omega
 have AY:IntKind.i64.wrap (3+(k:Int)+1)=3+(k:Int)+1:=by rw [IntKind.wrap_i64];omega
 have AX:IntKind.i64.wrap (3+(k:Int))=3+(k:Int):=by rw [IntKind.wrap_i64];omega
 go_wp2_with fail;refine (refkey_any s (3+(k:Int)) wr).mono ?_;rintro e w2 ⟨rfl,Ah⟩;have Ae:=q_ (Al.o.trans (Ah.mono Al.o.size));have Ao:=q_ (hb.o.trans (Ah.mono hsz));have AB:=q_ (own_below hO.o Ah);have Ac:(w:Nat)+1<=w2:=Nat.le_trans hsz Ah.size;clear Ah hb hO hsz Al;cases Ab:bv_ s 3
 case false =>
  rw [keyV_no (by rw [keyOk_at o_];exact Ab)];go_wp2_with fail;go_ret;exact ⟨none,0,0,rfl,by rw [guess_out (.inr (.inr Ab))];exact Sl.nil,Ae.o⟩
 case true =>
 rw [keyV_yes (by rw [keyOk_at o_];exact Ab)];have AD:=q_ Ab;have q0:=(belc Ao.o (b:=w) (o:=0) o_).trans (Aw.o.2.1 0 _ rfl);have A7:=reflast_any A n c ts (kOf s (3+(k:Int))) w2 (AE.o.up Ae.o) hn;unfold Val.value at A7;have Ag:=q_ A7;clear A7 Ab;go_wp2_with fail;refine Ag.o.mono ?_;rintro e w3 ⟨rfl,Ai⟩;have Ak:=q_ (Ae.o.trans (Ai.mono Ae.o.size));have Af:=q_ (Ao.o.trans (Ai.mono Ac));have A5:=q_ (own_below AB.o Ai);have A4:(w:Nat)+1<=w3:=Nat.le_trans Ac Ai.size;obtain ⟨x0,AJ⟩:=ex_ (lastV ts (kOf s (3+(k:Int))));rw [<-AJ];obtain ⟨V5,AG,A2,Av,Au⟩:=af_ w3 [.bool x0.ref,i_ x0.n] 38;obtain ⟨b5,An⟩:=ex_ (w3:Nat);rw [<-An] at Au;have Aq:=q_ (Ak.o.trans (A2.mono Ak.o.size));have As:=q_ (Af.o.trans (A2.mono A4));have AC:=q_ (own_below A5.o A2);have Ap:=h_ (∀ g,u11.ownBlock=some g->g<b5) (fun g hg=>by rw [An];exact (A5.o.lt g hg).2);have Ax:=q_ Au;have Ad:(w:Nat)+1<=V5:=by omega
 have Aa:w+1<=b5:=by omega
 clear q0 Ai Ae Ao AB Ag AJ Ac Au A2 Av;go_upto_region 12 with fail;rw [<-AG,<-An];clear AG An A4 Ak Af A5;have q0:=(belc As.o (b:=w) (o:=0) o_).trans (Aw.o.2.1 0 _ rfl);have A7:=refstride_any A n c ts (kOf s (3+(k:Int))) V5 (AE.o.up Aq.o) hn;unfold Val.value at A7;have Ag:=q_ A7;clear A7;go_wp2_with fail;refine Ag.o.mono ?_;rintro e w4 ⟨rfl,A8⟩;obtain ⟨x,hx⟩:=ex_ (et_ ts (kOf s (3+(k:Int))));rw [<-hx];have AO:=h_ (x=sayV ts true (kOf s (3+(k:Int)))) hx;have A0:=Ax.o.below A8;have v0:=A0.2.1 0 _ rfl;have v1:=A0.2.1 1 _ rfl;have vf:=A0.2.2;obtain ⟨w3,A1⟩:=ex_ ((w4.setCell (a_ b5) (.bool x.ref)).setCell (f_ b5 1) (i_ x.n));have Am:Below (w+1) w4 w3:=by rw [A1];exact ((Below.refl _ w4).setCell (p:=(a_ b5)) Aa _).setCell (p:=(f_ b5 1)) Aa _
 have AF:=h_ (Bx w3 b5 [.bool x.ref,i_ x.n]) (by rw [A1];exact (A0.set 0 _).set 1 _);have A9:=A8.mono Ad;have Ak:=q_ (Aq.o.trans ((A9.trans Am).mono o_));have Af:=q_ (As.o.trans (A9.trans Am));have A5:=q_ (show w3.ownsRow (w+1) 87 4 u11 (as_ ts s fr true k).length ((as_ ts s fr true k).flatMap Cl.cells) from by
  have h1:=own_below AC.o A8
  rw [A1]
  exact bp_ (bp_ h1 _ (fun e=>absurd (Ap.o _ e) (Nat.lt_irrefl b5))) _ (fun e=>absurd (Ap.o _ e) (Nat.lt_irrefl b5)))
 have A4:(w:Nat)+1<=w3:=Nat.le_trans (Nat.le_trans Ad A8.size) Am.size;clear q0 A8 Ag hx Ad Aq As AC A0 A9 Am;go_upto_region 13 with fail;rw [<-A1];clear A1 v0 v1 vf Ax Aa Ap;have v0:=AF.o.2.1 0 _ rfl;have v1:=AF.o.2.1 1 _ rfl;obtain ⟨l,hl⟩:=ex_ (as_ ts s fr true k);rw [<-hl] at A5;have AA:=q_ hl;have Az:=h_ (l.length<=k) xb_;clear hl;cases hh:hit ts (kOf s (3+(k:Int)))
 case false =>
  have HG:=h_ (as_ ts s fr true (k+1)=l) (by rw [guess_no hh,AA.o]);clear hh;go_wp2_with fail;go_roundw
  case rel=>exact ⟨k+1,o_,by first | go_num | (congr 1;omega) | (simp;omega),q_ (fun h=>by rw [AD.o] at h;cases h),q_ (by rw [HG.o];exact own_below A5.o ((bel (b_)))),q_ ((bel Af.o))⟩
  case measure=>simp [intOf] <;> omega
 case true =>
 have HG:=h_ (as_ ts s fr true (k+1)=l ++ [⟨fr,3+(k:Int),x⟩]) (by rw [guess_yes hh,AA.o,AO.o]);clear hh;have Ay:=q_ ((bel (Below.refl w3 w3)):Below w3 w3 (w3.alloc (.cells #[i_ fr,i_ (3+(k:Int)),.bool x.ref,i_ x.n] 87)));have AK:=h_ (∀ ad,(some (a_ w3):OA)=some ad->∀ (j:Nat) (u:Value),(Cl.cells ⟨fr,3+(k:Int),x⟩)[j]?=some u->(w3.alloc (.cells #[i_ fr,i_ (3+(k:Int)),.bool x.ref,i_ x.n] 87)).cell? (ad.add j)=some u) (fun ad h j u hu=>by
  injection h with h
  subst h
  rw [Addr.add_lit,ay_ _ _ _ _ _ t_,Nat.zero_add,List.getElem?_toArray]
  exact hu)
 go_wp2_with (at_builtin;refine av_ rfl _ _ 54 rfl (w+1) 87 i0 _ 4 32 underlying54 hi AS AT AU rfl d_ u11 l.length (l.flatMap Cl.cells) rfl (own_below A5.o Ay.o) (some (a_ w3)) 1 1 (Cl.cells ⟨fr,3+(k:Int),x⟩) rfl yq_ rfl AK.o xk_ (by have:=Az.o;unfold maxLen;omega) (by have:=Az.o;omega) za_ ?_;intro A3 c3 w4 A6 Aj _);have AM:=q_ A6;have A8:Below (w+1) w3 w4:=(Ay.o.mono A4).grown Aj za_ (fun k hk=>(A5.o.lt k hk).1);clear A6 Aj;go_roundw
 case rel=>exact ⟨k+1,o_,by first | go_num | (congr 1;omega) | (simp;omega),q_ (fun h=>by rw [AD.o] at h;cases h),q_ (by rw [HG.o,List.length_append,List.flatMap_append];simpa using AM.o),q_ (Af.o.trans A8)⟩
 case measure=>simp [intOf] <;> omega
theorem fe_ (A:OA) (n c:Nat) (ts:List Trk) (s fr m:Int) (st:Bool) (w:World) (hs:Sl w w 5 Trk.cells A n ts) (hsort:Sorted ts) (hn:n<=1000000) :
  Calls prog 23 #[.agg #[.slice A n c],i_ s,i_ fr,i_ m,.bool st] w (GivesC (guessP ts s fr m st) w):=by
 cases st
 ·exact refguesses_f A n c ts s fr m w hs hsort hn
 exact refguesses_t A n c ts s fr m w hs hsort hn
end Go.Proofs.YtfolidlmgfhkiaaGreat.Pr
namespace Go.Proofs.YtfolidlmgfhkiaaGreat
open Go.RowKit Go.Proofs.Tryz
theorem results_tmp3' {P:Program} {fn:Func} {t u s:Tmp} (h:fn.results=#[.tmp t,.tmp u,.tmp s]) (tmps:Array Value) (w:World) :
  (results fn tmps).run P w=.ok (.tuple #[tmps.getD t undef,tmps.getD u undef,tmps.getD s undef]) w:=by
 simp [results,h]
def RMe (e:Ending):Prop:=∃ (a b:Int) (k:Bool),e=.returned (.tuple #[i_ a,i_ b,.bool k])
structure StC (w:World) (A:OA) (k:Nat) (kd:Int) (s f:ByteArray) (n op:Int) (E B C:OA) (m c m1 c1 m2 c2:Nat) (g o:Nat):Prop where
 hA:A=some (f_ g o)
 lt:g<w
 k0:w.cell? ⟨g,o+k*8,none⟩=some (i_ kd)
 k1:w.cell? ⟨g,o+k*8+1,none⟩=some (.string s)
 k2:w.cell? ⟨g,o+k*8+2,none⟩=some (.string f)
 k3:w.cell? ⟨g,o+k*8+3,none⟩=some (i_ n)
 k4:w.cell? ⟨g,o+k*8+4,none⟩=some (i_ op)
 k5:w.cell? ⟨g,o+k*8+5,none⟩=some (.slice E m c)
 k6:w.cell? ⟨g,o+k*8+6,none⟩=some (.slice B m1 c1)
 k7:w.cell? ⟨g,o+k*8+7,none⟩=some (.slice C m2 c2)
theorem StC.up {w w':World} {A:OA} {k:Nat} {kd:Int} {s f:ByteArray} {n op:Int} {E B C:OA} {m c m1 c1 m2 c2 g o:Nat} (h:StC w A k kd s f n op E B C m c m1 c1 m2 c2 g o) (hb:Below w w w'):StC w' A k kd s f n op E B C m c m1 c1 m2 c2 g o:=by
 have hc:∀ j,w'.cell? (f_ g j)=w.cell? (f_ g j):=fun j=>belc hb h.lt
 exact ⟨h.hA,lt_ h.lt hb.size,(hc _).trans h.k0,(hc _).trans h.k1,(hc _).trans h.k2,(hc _).trans h.k3,(hc _).trans h.k4,(hc _).trans h.k5,(hc _).trans h.k6,(hc _).trans h.k7⟩
theorem StC.of {w:World} {A:OA} {k g o:Nat} {kd:Int} {s f:ByteArray} {n op:Int} {E B C:OA} {m c m1 c1 m2 c2:Nat} (hA:A=some (f_ g o)) (hg:g<w) (hc:∀ j u,([i_ kd,.string s,.string f,i_ n,i_ op,.slice E m c,.slice B m1 c1,.slice C m2 c2]:VL)[j]?=some u->w.cell? ⟨g,o+k*8+j,none⟩=some u):StC w A k kd s f n op E B C m c m1 c1 m2 c2 g o :=
 ⟨hA,hg,hc 0 _ rfl,hc 1 _ rfl,hc 2 _ rfl,hc 3 _ rfl,hc 4 _ rfl,hc 5 _ rfl,hc 6 _ rfl,hc 7 _ rfl⟩
theorem SlP.st {d:Nat} {X:NP} {w:World} {K:Nat} {A:OA} {n c k:Nat} (h:SlP w X K pS (ag_ d) A n c) (hk:k<n):∃ (kd:Int) (s f:ByteArray) (nn op:Int) (E B C:OA) (m c m1 c1 m2 c2 g o:Nat),StC w A k kd s f nn op E B C m c m1 c1 m2 c2 g o/\SlP w X K pE (be_ dE) E m c/\(s.size<=100/\f.size<=100)/\¬X g/\(kd=5->2<=m)/\(kd=6->1<=m)/\(kd=3->f=nameF\/f=nameG) ∧
  (d=0->m1=0/\m2=0)/\∀ d',d=d'+1->SlP w X K pS (ag_ d') B m1 c1/\SlP w X K pS (ag_ d') C m2 c2:=by
 obtain ⟨g,o,us,hA,hg,hX,hu,⟨kd,s,f,nn,op,E,B,C,m,c',m1,c1,m2,c2,rfl,p1,p2,p3,p4,p5⟩,hc⟩:=h.el hk;rw [ca_] at hc;cases d with
 | zero =>
  obtain ⟨A0,s',f',n',A1,A',B',C',m',q',x1,x2,e,h1,h2,h3⟩:=hu.stmt0;injection e with e0 e;injection e with e1 e;injection e with e2 e;injection e with e3 e;injection e with e4 e;injection e with e5 e;injection e with e6 e;injection e with e7 e;injection e5 with a1 a2 a3;injection e6 with b1 b2 b3;injection e7 with d1 d2 d3;subst a1 a2 a3;exact ⟨kd,s,f,nn,op,E,B,C,m,c',m1,c1,m2,c2,g,o,StC.of hA hg hc,h1,⟨p4,p5⟩,hX,p1,p2,p3,fun _=>⟨b2,d2⟩,fun d' e=>by cases e⟩
 | succ d =>
  obtain ⟨A0,s',f',n',A1,A',B',C',m',q',x1,y1,x2,y2,e,h1,h2,h3⟩:=hu.stmt;injection e with e0 e;injection e with e1 e;injection e with e2 e;injection e with e3 e;injection e with e4 e;injection e with e5 e;injection e with e6 e;injection e with e7 e;injection e5 with a1 a2 a3;injection e6 with b1 b2 b3;injection e7 with d1 d2 d3;subst a1 a2 a3 b1 b2 b3 d1 d2 d3;exact ⟨kd,s,f,nn,op,E,B,C,m,c',m1,c1,m2,c2,g,o,StC.of hA hg hc,h1,⟨p4,p5⟩,hX,p1,p2,p3,x_,fun d' e=>by injection e with e;subst e;exact ⟨h2,h3⟩⟩
theorem ev_ (X:NP) (K:Nat) (hK:K<=900000000) (A:OA) (n c:Nat) (w:World) (hn:n<=900000000)
  (hk:∀ k,k<n->∃ (kd:Int) (s f:ByteArray) (nn op:Int) (E B C:OA) (m c m1 c1 m2 c2 g o:Nat),StC w A k kd s f nn op E B C m c m1 c1 m2 c2 g o/\SlP w X K pE (be_ dE) E m c/\(s.size<=100/\f.size<=100) ∧
   ∀ w':World,Below w w w'->(Calls prog 187 #[.slice B m1 c1] w' fun e w''=>RMe e/\Below w' w' w'')/\Calls prog 187 #[.slice C m2 c2] w' fun e w''=>RMe e/\Below w' w' w'') :
  Calls prog 187 #[.slice A n c] w fun e w'=>RMe e/\Below w w w':=by
 have HK:=q_ hk;clear hk;go_enter func187,ntmps187;go_upto_region 3 with fail;go_loopw [5,6,17] (fun a b i wr=>∃ (k:Nat) (p q:Int),k<=n/\a=i_ p/\b=i_ q/\i=i_ k/\Hid (Below w w wr)) (fun _ _ i _=>n - (intOf i).toNat)
 case atStart=>exact ⟨0,0,0,o_,rfl,rfl,rfl,q_ (b_)⟩
 obtain ⟨k,p,q,A8,rfl,rfl,rfl,HR⟩:=hrel;have A6:(w:Nat)<=wr:=HR.o.size;by_cases hlt:k<n
 ·have A2:(k:Int)<(n:Int):=by omega
  obtain ⟨kd,s,f,nn,op,E,B,C,m,c',m1,c1,m2,c2,g,o,A5,hE,hsz,A1⟩:=HK.o k hlt;obtain ⟨rfl,hg,k0,k1,k2,k3,k4,k5,k6,k7⟩:=A5.up HR.o;obtain ⟨V,hV,A4,A7,B0⟩:=af_ wr [i_ kd,.string s,.string f,i_ nn,i_ op,.slice E m c',.slice B m1 c1,.slice C m2 c2] 212;have A0:=q_ (HR.o.trans (A4.mono A6));have KC:=h_ (∀ w',Below V V w'->(w'.cell? (a_ wr)=some (i_ kd)/\w'.cell? (f_ wr 1)=some (.string s)/\w'.cell? (f_ wr 2)=some (.string f)/\w'.cell? (f_ wr 3)=some (i_ nn)/\w'.cell? (f_ wr 4)=some (i_ op)/\w'.cell? (f_ wr 5)=some (.slice E m c')/\w'.cell? (f_ wr 6)=some (.slice B m1 c1)/\w'.cell? (f_ wr 7)=some (.slice C m2 c2))) (fun w' hb =>
   ⟨(B0.below hb).2.1 0 _ rfl,(B0.below hb).2.1 1 _ rfl,(B0.below hb).2.1 2 _ rfl,(B0.below hb).2.1 3 _ rfl,(B0.below hb).2.1 4 _ rfl,(B0.below hb).2.1 5 _ rfl,(B0.below hb).2.1 6 _ rfl,(B0.below hb).2.1 7 _ rfl⟩)
  have HE:=q_ hE;have HS:=q_ hsz;have A3:=q_ A1;clear B0 A4 A5 hE hsz A1;go_upto_region 5 with fail;rw [<-hV];clear hV k0 k1 k2 k3 k4 k5 k6 k7;obtain ⟨x0,x1,x2,x3,x4,x5,x6,x7⟩:=KC.o V (b_);go_wp2_with fail;refine (statement_step kd s f nn op E B C m c' m1 c1 m2 c2 X K hK dE V (HE.o.below A0.o) HS.o).mono ?_;rintro e W1 ⟨⟨b,rfl⟩,hB⟩;have H1:=q_ hB;clear x0 x1 x2 x3 x4 x5 x6 x7 hB;obtain ⟨x0,x1,x2,x3,x4,x5,x6,x7⟩:=KC.o W1 H1.o;cases b
  case false =>
   go_wp2;try simp only [Exit.inBlock,Exit.then]
   refine bodyPost_ret (results_tmp3' zd_ _ _) rfl ?_;exact ⟨⟨_,_,_,rfl⟩,A0.o.trans (H1.o.mono A0.o.size)⟩
  case true =>
  go_wp2_with fail;refine (A3.o W1 (A0.o.trans (H1.o.mono A0.o.size))).1.mono ?_;rintro e W2 ⟨⟨a1,b1,o1,rfl⟩,hB⟩;have H2:=q_ (H1.o.trans (hB.mono H1.o.size));clear x0 x1 x2 x3 x4 x5 x6 x7 hB;obtain ⟨x0,x1,x2,x3,x4,x5,x6,x7⟩:=KC.o W2 H2.o;go_wp2_with fail;refine (A3.o W2 (A0.o.trans (H2.o.mono A0.o.size))).2.mono ?_;rintro e W3 ⟨⟨a2,b2,o2,rfl⟩,hB⟩;have H3:=q_ (H2.o.trans (hB.mono H2.o.size));clear x0 x1 x2 x3 x4 x5 x6 x7 hB;cases o1 <;> cases o2
  all_goals
   go_wp2;first
    | (try simp only [Exit.inBlock,Exit.then]
       refine bodyPost_ret (results_tmp3' zd_ _ _) rfl ?_
       exact ⟨⟨_,_,_,rfl⟩,A0.o.trans (H3.o.mono A0.o.size)⟩)
    | (go_roundw
       case rel=>exact ⟨k+1,_,_,o_,rfl,rfl,zc_,q_ (A0.o.trans (H3.o.mono A0.o.size))⟩
       case measure=>exact me_)
 have A2:¬(k:Int)<(n:Int):=by omega
 go_wp2;try simp only [Exit.inBlock,Exit.then]
 refine bodyPost_ret (results_tmp3' zd_ _ _) rfl ?_;exact ⟨⟨_,_,_,rfl⟩,HR.o⟩
theorem measure_any (X:NP) (K:Nat) (hK:K<=900000000):∀ (d:Nat) (A:OA) (n c:Nat) (w:World),SlP w X K pS (ag_ d) A n c->Calls prog 187 #[.slice A n c] w fun e w'=>RMe e/\Below w w w'
 | 0,A,n,c,w,h=>by
  refine ev_ X K hK A n c w (Nat.le_trans h.sl.le hK) (fun k hk=>?_);obtain ⟨kd,s,f,nn,op,E,B,C,m,c',m1,c1,m2,c2,g,o,h1,h2,h3,_,_,_,_,h0,_⟩:=h.st hk;obtain ⟨rfl,rfl⟩:=h0 rfl;exact ⟨kd,s,f,nn,op,E,B,C,m,c',0,c1,0,c2,g,o,h1,h2,h3,fun w' hb=>⟨ev_ X K hK B 0 c1 w' o_ (fun k hk=>o_),ev_ X K hK C 0 c2 w' o_ (fun k hk=>o_)⟩⟩
 | d+1,A,n,c,w,h=>by
  refine ev_ X K hK A n c w (Nat.le_trans h.sl.le hK) (fun k hk=>?_);obtain ⟨kd,s,f,nn,op,E,B,C,m,c',m1,c1,m2,c2,g,o,h1,h2,h3,_,_,_,_,_,hd⟩:=h.st hk;exact ⟨kd,s,f,nn,op,E,B,C,m,c',m1,c1,m2,c2,g,o,h1,h2,h3,fun w' hb=>⟨measure_any X K hK d B m1 c1 w' ((hd d rfl).1.below hb),measure_any X K hK d C m2 c2 w' ((hd d rfl).2.below hb)⟩⟩
end Go.Proofs.YtfolidlmgfhkiaaGreat
namespace Go.Proofs.YtfolidlmgfhkiaaGreat.Pr
open Go.RowKit Go.Proofs.Tryz
theorem reftrain_old (A:OA) (n c:Nat) (ts:List Trk) (key:Int) (v:Val) (w:World) (hs:Sl w w 5 Trk.cells A n ts) (hn:n<=900000) (hgood:Good ts) (hh:hit ts key=true) :
  Calls prog 60 #[.agg #[.slice A n c],i_ key,v.value] w (Gives (cl_ ts key v) w):=by
 obtain ⟨i0,hi,As,Au,Av⟩:=info_parts CloneTk5.infoE;have Ae:=q_ hgood.2;have HH:=q_ hh;clear hgood hh;unfold Val.value;obtain ⟨W,hW⟩:=ex_ (((w.alloc (.cells #[.slice A n c] 59)).alloc (.cells #[.bool v.ref,i_ v.n] 38)).alloc (.cells #[.slice none 0 0] 59));have A8:Below w w W:=by rw [hW];exact (bel (b_))
 have Ab:(W:Nat)=w+3:=by rw [hW];simp
 have Ad:=(hs.below A8).mono (B':=W) o_;have q0:W.cell? (a_ w)=some (.slice A n c):=zy_;have q1:W.cell? (a_ (w+1))=some (.bool v.ref):=zk_;have q2:W.cell? (f_ (w+1) 1)=some (i_ v.n):=zk_;have q3:W.cell? ⟨w+1+1,0,none⟩=some (.slice none 0 0):=ym_;have q4:W.frozen? ⟨w+1+1,0,none⟩=false:=xh_;have HL:=h_ ((ts.flatMap Trk.cells).length=n*5) yu_;have Ag:=q_ q0;have Ah:=q_ q1;have Ai:=q_ q2;have Aj:=q_ q3;have Ak:=q_ q4;have HZ:=q_ Ab;have HB:=q_ A8;clear Ab q0 q1 q2 q3 q4 A8;subst hW;go_enter func60,ntmps60;go_wp2_with (at_builtin;refine av_ rfl _ _ 57 rfl (w+3) 122 i0 _ 5 40 underlying57 hi As Au Av rfl d_ (.slice none 0 0) 0 [] rfl (World.ownsRow_nil _ _ _ _) A n c (ts.flatMap Trk.cells) rfl (Sl.src Ad).1 HL.o (Sl.src Ad).2 (ed_ ts) m_ o_ t_ ?_;intro A1 c1 w1 A4 A0 _;have d0:=((bx_ A0).1 w 0 z4_ zr_).trans Ag.o);have hz:=A0.size;rw [HZ.o] at hz;have d1:=((bx_ A0).1 (w+1) 0 z4_ zr_).trans Ah.o;have d2:=((bx_ A0).1 (w+1) 1 z4_ zr_).trans Ai.o;have d3:=((bx_ A0).1 (w+1+1) 0 z4_ zr_).trans Aj.o;have d4:=((bx_ A0).2 (w+1+1) 0 z4_ zr_).trans Ak.o;have Ac:Below w w w1:=HB.o.grown A0 z4_ zr_;rw [List.nil_append,Nat.zero_add] at A4;have Ap:=(hs.below Ac).mono (B':=w1) o_;refine (at_any A n c ts key _ Ap o_).mono ?_;rintro e w2 ⟨rfl,A5⟩;have Aw:=A5.size;have e1:=(A5.cell (p:=(a_ (w+1))) za_).trans d1;have e2:=(A5.cell (p:=(f_ (w+1) 1)) za_).trans d2;have e3:=(A5.cell (p:=⟨w+1+1,0,none⟩) za_).trans d3;have e4:=(A5.frozen (p:=⟨w+1+1,0,none⟩) za_).trans d4;have A3:=own_below A4 A5;have Am:Below w w w2:=Ac.trans (A5.mono o_);rw [HH.o];obtain ⟨t,ht,_,A6⟩:=fnd_some HH.o;have Af:=q_ A6;clear A6;have An:lowb ts key<n:=by rw [<-hs.len];exact (e_ ht).1
 obtain ⟨g,c2,A7,Ax,Ay⟩:=A3.form o_;injection A7 with A7 _ hc12;subst A7 hc12;obtain ⟨k,hk⟩:=ex_ (lowb ts key);rw [<-hk] at ht An;rw [<-hk];have A2:∀ (i:Nat) (x:Trk),ts[i]?=some x->∀ (j:Nat) (u:Value),(Trk.cells x)[j]?=some u->w2.cell? ⟨g,i*5+j,none⟩=some u:=fun i x hx j u hu=>by
  have hj:j<5:=by have:=(e_ hu).1;rwa [Trk.size] at this
  have hi:=(e_ hx).1;rw [hs.len] at hi;rw [A3.cellAt _ o_];exact flat_get Trk.size ts i x hx j u hu
 have f0:w2.cell? ⟨g,k*5,none⟩=some (i_ t.key):=A2 k t ht 0 _ rfl;have f1:w2.cell? ⟨g,k*5+1,none⟩=some (.bool t.last.ref):=A2 k t ht 1 _ rfl;have f2:w2.cell? ⟨g,k*5+2,none⟩=some (i_ t.last.n):=A2 k t ht 2 _ rfl;have f3:w2.cell? ⟨g,k*5+3,none⟩=some (i_ t.stride):=A2 k t ht 3 _ rfl;have f4:w2.cell? ⟨g,k*5+4,none⟩=some (i_ t.seen):=A2 k t ht 4 _ rfl;have fz:∀ j,w2.frozen? (f_ g j)=false:=fun j=>A3.frozenAt j
 obtain ⟨Aq,Ar⟩:=Ae.o k t ht;have Al:=h_ (cl_ ts key v=ts.modify k (upd · v)) (by rw [cl_,HH.o,hk];rfl);have HO:=q_ A2;have HT:=q_ ht;have Az:¬g=w+1:=by omega
 have A9:w<=g:=by omega
 have AA:¬g=w+1+1:=by omega
 have Ao:(w:Nat)+1<w2:=by omega
 have Aa:(w:Nat)+1+1<w2:=by omega
 clear A2 ht hk d0 d1 d2 d3 d4;cases hv:v.ref <;> cases hl:t.last.ref <;> by_cases hsn:t.seen<1073741824
 all_goals
  go_wp2;refine bodyPost_ret (v:=.agg #[.slice (some (a_ g)) n c1]) (by simp [results,results60,go_sem,e3,Aa,World.cell?_alloc_lt]) rfl ⟨_,n,c1,rfl,?_,(bel Am),by rintro ad ⟨⟩;exact A9⟩;rw [Al.o];refine sl_upd (w2:=w2) hs.len za_ HT.o HO.o (fun o ho=>?_) (five ?_ ?_ ?_ ?_ ?_)
  ·rw [ai_ _ _ _ _ za_]
   repeat rw [bg_ _ _ _ _ zl_]
  ·rw [ai_ _ _ _ _ za_];simp [go_sem,upd,f0,hv,hl,hsn]
  ·rw [ai_ _ _ _ _ za_];simp [go_sem,upd,f1,hv,hl,hsn]
  ·rw [ai_ _ _ _ _ za_];simp [go_sem,upd,f2,hv,hl,hsn]
  ·rw [ai_ _ _ _ _ za_];simp [go_sem,upd,f3,hv,hl,hsn]
  rw [ai_ _ _ _ _ za_];simp [go_sem,upd,f4,hv,hl,hsn] <;> omega
end Go.Proofs.YtfolidlmgfhkiaaGreat.Pr
namespace Go.Proofs.YtfolidlmgfhkiaaGreat
open Go.RowKit Go.Proofs.Tryz
def row48 (w:World) (b o:Nat):Array Value:=((List.range 48).map fun j=>(w.cell? ⟨b,o+j,none⟩).getD undef).toArray
def row48V (w:World):Value->Array Value
 | .pointer (some ⟨b,o,none⟩)=>row48 w b o
 | _=>#[]
def There48 (w:World) (v:Value):Prop:=∃ b o,∃ vs:VL,v=.pointer (some (f_ b o))/\vs.length=48/\w.rangeAt b o vs
theorem row48_at {w:World} {b o:Nat} {vs:VL} (hl:vs.length=48) (h:w.rangeAt b o vs):row48 w b o=vs.toArray:=by
 unfold row48
 congr 1
 apply List.ext_getElem?;intro j;by_cases hj:j<48
 ·exact tj_
 rw [List.getElem?_eq_none za_,List.getElem?_eq_none o_]
theorem exec48 (ρ:Operand->Value) (x:Operand) (d:Option Nat) (ty:TypeId) (pos:String) (af:Array Edge) (gd:Option (Nat × Bool)) (w:World) (h:There48 w (ρ x)) :
  Sem.run prog (execOp ρ { dst:=d,op:=.load 65 x,type:=ty,pos:=pos,after:=af,guard:=gd }) w=.ok (.value (.agg (row48V w (ρ x)))) w:=by
 obtain ⟨b,o,vs,hv,hl,ht⟩:=h;have h1:=run_loadAt_mid (P:=prog) w b o _ vs _ ht underlying65 rfl (by rw [hl];kernel_rfl);unfold execOp;simp only [hv,Sem.run_bind,h1,Result.andThen_ok,Sem.run_pure,row48V,row48_at hl ht]
attribute [local go_sem ↓] exec48
end Go.Proofs.YtfolidlmgfhkiaaGreat
namespace Go.Proofs.YtfolidlmgfhkiaaGreat
open Go.RowKit Go.Proofs.Tryz
theorem Visible_t (X:NP) (K:Nat) (A:OA) (n c:Nat) (L:Nat) (vs:VL) (w:World) (h:SlT w X K objT A n c) (hK:K<=1000000000000) (ht:VTs w X L ae_ vs) (hL:L<=1000000000000) (hX:∀ k,X k->k<w) :
  Calls prog 86 #[.agg vs.toArray,.agg #[.slice A n c]] w fun e w'=>RH X (K+2*L) e w'/\Below w w w':=by
 obtain ⟨i0,Bc,Be,Bf,Bg⟩:=info_parts infoOb;obtain ⟨NA,nn,nc,Ad,A5⟩:=ht.slc (j:=39) (e:=objT) rfl;obtain ⟨WA,wn,wc,Ac,Ag⟩:=ht.slc (j:=38) (e:=ap_) rfl;obtain ⟨DA,dn,dc,Ae,Ab⟩:=ht.slc (j:=40) (e:=bm_) rfl;have Bi:(prog.info? 65).map (·.size)=some vs.length:=by rw [ht.1];kernel_rfl
 obtain ⟨W,hW,A3,Ba,B0,B1,B2⟩:=dw_ w vs 65 [.slice A n c] 35 [.slice none 0 0] 35;have A6:∀ k,k<w.heap.size->¬X k->¬(X k\/(w.heap.size<=k/\k<w.heap.size+3)):=fun k hk h1 h2=>by rcases h2 with h2 | h2;exact h1 h2;omega
 have H:=q_ (h.kept (Y:=fun k=>X k\/(w<=k/\k<w+3)) (Kp.of_below A3) A6 (Nat.le_refl K));have HT:=q_ (ht.kept (Y:=fun k=>X k\/(w<=k/\k<w+3)) (Kp.of_below A3) A6 (Nat.le_refl L));have HN:=q_ (A5.kept (Y:=fun k=>X k\/(w<=k/\k<w+3)) (Kp.of_below A3) A6 (Nat.le_refl L));have Ay:=q_ (Ag.kept (Y:=fun k=>X k\/(w<=k/\k<w+3)) (Kp.of_below A3) A6 (Nat.le_refl L));have Aw:=q_ (Ab.kept (Y:=fun k=>X k\/(w<=k/\k<w+3)) (Kp.of_below A3) A6 (Nat.le_refl L));have HW:=q_ A3;have Am:=q_ B0;have Av:=q_ B2;have Bk:=h.le;have Bd:=A5.le;have Ao:=h_ (∀ k,(X k\/(w<=k/\k<w+3))->k<W) (fun k hk=>by rcases hk with hk | hk;have:=hX k hk;omega;omega);have AD:(w:Nat)+3=W:=by omega
 have AA:=q_ AD;have HF:=q_ (And.intro Ad (And.intro Ac Ae));have c1:=B1.2.1 0 _ rfl;clear A6 h ht hX B0 B1 B2 A3 Ba A5 Ag Ab AD Ad Ac Ae;go_enter func86,ntmps86;go_upto_region 1 with fail;rw [<-hW];clear hW;go_wp2_with (with_reducible refine ac_ rfl 65 (.tmp 2) rfl _ underlying65 rfl v_ Am.o.whole Bi ?_);refine (before_t (fun k=>X k\/(w.heap.size<=k/\k<w.heap.size+3)) K A n c L vs W H.o hK HT.o hL Ao.o).mono ?_;rintro e Y ⟨⟨C,q,d,rfl,hC⟩,hY⟩;obtain ⟨V,hV,Ar,B9,V0⟩:=af_ Y [.slice C q d] 35;have Bb:=hY.size;have zW:=AA.o;have A2:Below W.heap.size W V:=hY.trans (Ar.mono hY.size);have Ai:∀ k,k<W.heap.size->¬(X k\/(w.heap.size<=k/\k<w.heap.size+3))->¬(X k\/(w.heap.size<=k/\k<w.heap.size+3)\/k=Y.heap.size):=fun k hk h1 h2=>by rcases h2 with h2 | h2 | h2;exact h1 (.inl h2);exact h1 (.inr h2);omega
 have AF:=q_ (hC.o.kept (Y:=fun k=>X k\/(w<=k/\k<w+3)\/k=Y) (Kp.of_below Ar) (fun k hk h1 h2=>by rcases h2 with h2 | h2 | h2;exact h1 (.inl h2);exact h1 (.inr h2);omega) (Nat.le_refl K));have Bh:=hC.o.le;have AL:=q_ (HN.o.kept (Y:=fun k=>X k\/(w<=k/\k<w+3)\/k=Y) (Kp.of_below A2) Ai (Nat.le_refl L));have AZ:=q_ (Ay.o.kept (Y:=fun k=>X k\/(w<=k/\k<w+3)\/k=Y) (Kp.of_below A2) Ai (Nat.le_refl L));have AH:=q_ (Aw.o.kept (Y:=fun k=>X k\/(w<=k/\k<w+3)\/k=Y) (Kp.of_below A2) Ai (Nat.le_refl L));have AX:=q_ (Am.o.below A2);have AW:=q_ (Av.o.below A2);have AY:=q_ V0;have An:=q_ A2;have A8:=h_ (∀ k,(X k\/(w<=k/\k<w+3)\/k=Y)->k<V) (fun k hk=>by rcases hk with hk | hk | hk;have:=Ao.o k (.inl hk);omega;omega;omega);have Az:=q_ (show (Y:Nat)<V by omega);clear hC hY Ar B9 A2 Ai c1 H HT HN Ay Aw Am Av Ao;go_upto_region 2 with fail;rw [<-hV];clear hV;have v0:=V0.2.1 0 _ rfl;have v1:=V0.2.2;clear V0;have HA:=h_ (SlT V (Wi (fun k=>X k\/(w<=k/\k<w+3)\/k=Y) (Value.slice none 0 0).ownBlock) K objT C q d) (AF.o.kept (Kp.refl _ _) (fun k _ h h2=>by rcases h2 with h2 | h2;exact h h2;cases h2) (Nat.le_refl K));go_upto_region 3 with (at_builtin;refine ao_ rfl _ _ 33 rfl V 90 i0 _ 32 objT (fun k=>X k\/(w<=k/\k<w+3)\/k=Y) K underlying33 Bc Be Bf Bg rfl d_ none 0 0 zb_ (OwT.nil _ _ _ _ _ _) C q d zb_ HA.o A8.o m_ o_ (l_) ?_;intro A4 c4 w4 o4 g4 l4;rw [Nat.zero_add] at o4 l4 ⊢;have b4:Below V V w4:=ak_ g4 (l_) (fun k hk=>by cases hk);have O4:=q_ (o4.slT A8.o Bh);have BX:=q_ (AY.o.below b4);have m0:=BX.o.2.1 0 _ rfl;have m1:=BX.o.2.2;have B4:=q_ b4;clear o4 l4 g4 v0 v1 b4);obtain ⟨U,hU⟩:=ex_ (w4.setCell (a_ Y) (.slice A4 q c4));have AJ:=h_ (Kp (fun k=>k=Y) V U) (by rw [hU];exact (show Kp (fun k=>k=Y) V w4 from Kp.of_below B4.o).setCell (p:=(a_ Y)) (.inl rfl) _);have AT:=h_ (SlT U (fun k=>X k\/(w<=k/\k<w+3)\/k=Y) (K+L) objT A4 q c4) (by rw [hU];exact O4.o.up ((Kp.refl _ w4).setCell (p:=(a_ Y)) (.inl (.inr (.inr rfl))) _) o_);have AV:=h_ (Bx U Y [.slice A4 q c4]) vc_;have Ax:=h_ (Bx U w vs) (by rw [hU];exact (AX.o.below B4.o).far (by show (Y:Nat)≠w;omega) _);have AU:=h_ (Bx U (w+2) [.slice none 0 0]) (by rw [hU];exact (AW.o.below B4.o).far (by show (Y:Nat)≠w+2;omega) _);rw [<-hU];have Bj:=Ax.o.2.1 39 _ HF.o.1;clear hU m0 m1;have A7:=q_ (show (w:Nat)+3<=Y by omega);clear Bb zW;go_upto_region 4 with fail;clear Bj;go_loopw [18] (fun i wr=>∃ (k:Nat) (D:OA) (u d:Nat),k<=nn/\i=i_ k/\Hid (SlT wr (fun k=>X k\/(w<=k/\k<w+3)\/k=Y) (K+L+k) objT D u d)/\Hid (Bx wr Y [.slice D u d])/\Hid (Bx wr w vs)/\Hid (Bx wr (w+2) [.slice none 0 0])/\Hid (Kp (fun k=>k=Y) V wr)) (fun i _=>nn - (intOf i).toNat)
 case atStart=>exact ⟨0,A4,q,c4,o_,rfl,AT,AV,Ax,AU,AJ⟩
 obtain ⟨k,D,u,d,hk,rfl,hC,Ak,Aa,Aj,Al⟩:=hrel;have Bm:=Al.o.size;have Af:Kp (fun k=>X k\/(w<=k/\k<w+3)\/k=Y) V wr:=Al.o.mono (fun k _ h=>.inr (.inr h));by_cases hlt:k<nn
 ·have Au:(k:Int)<(nn:Int):=by omega
  obtain ⟨g,o,rfl,hg,x,AB,AC,hx⟩:=(AL.o.up Af (Nat.le_refl L)).obj_at hlt;obtain ⟨c4,c5⟩:=hx wr (b_);obtain ⟨S,hS,A0,B8,S0⟩:=af_ wr [i_ x.id,.slice x.A x.n x.c] 90;have v0:=S0.2.1 0 _ rfl;have v1:=S0.2.1 1 _ rfl;have c8:=(Ak.o.below A0).2.1 0 _ rfl;have AS:=q_ (Ak.o.below A0);have AR:=q_ (Aa.o.below A0);have AQ:=q_ (Aj.o.below A0);have AE:=q_ (hC.o.up (Kp.of_below A0) (l_));have AI:=q_ (Al.o.trans (.of_below A0));have AM:=q_ (AB.up (Kp.of_below A0) (show L<=K+L+k by omega));have AN:=q_ (AC.up A0);have Bl:=A0.size;clear hx AB AC Af A0 B8 S0;go_upto_region 6 with fail;rw [<-hS];clear hS c4 c5;go_wp2_with fail;refine (Put_t (fun k=>X k\/(w<=k/\k<w+3)\/k=Y) (K+L+k) D u d x S AE.o AM.o AN.o o_ (fun k hk=>by have:=A8.o k hk;omega)).mono ?_;rintro e Z ⟨⟨C2,q2,d3,rfl,Aq⟩,hZ⟩;have Ap:=q_ (AS.o.below hZ);have B6:=q_ (AR.o.below hZ);have B5:=q_ (AQ.o.below hZ);have AK:=q_ (AI.o.trans (.of_below hZ));have y0:=Ap.o.2.1 0 _ rfl;have y1:=Ap.o.2.2;clear hZ c8 v0 v1;go_wp2;go_roundw
  case rel=>exact ⟨k+1,C2,q2,d3,o_,zc_,q_ (Aq.o.up ((Kp.refl _ Z).setCell (p:=(a_ Y)) (.inl (.inr (.inr rfl))) _) o_),q_ (Ap.o.set 0 _),q_ (B6.o.far (by have:=A7.o;show (Y:Nat)≠w;omega) _),q_ (B5.o.far (by have:=A7.o;show (Y:Nat)≠w+2;omega) _),q_ (AK.o.setCell (p:=(a_ Y)) (.inl rfl) _)⟩
  case measure=>exact me_
 have Au:¬(k:Int)<(nn:Int):=by omega
 have B3:=q_ (AZ.o.up Af (Nat.le_refl L));have AG:=q_ (AH.o.up Af (Nat.le_refl L));have KS:=h_ (∀ w',Below wr wr w'->(w'.cell? (a_ Y)=some (.slice D u d)/\w'.cell? (f_ w 38)=some (.slice WA wn wc)/\w'.cell? (f_ w 40)=some (.slice DA dn dc))) (fun w' hb=>⟨(Ak.o.below hb).2.1 0 _ rfl,(Aa.o.below hb).2.1 38 _ HF.o.2.1,(Aa.o.below hb).2.1 40 _ HF.o.2.2⟩);have As:Below wr wr wr.drew:=Below.drew (b_);have Ah:=q_ As;obtain ⟨s0,s1,s2⟩:=KS.o wr.drew As;clear As Af;go_wp2_with fail;go_region_held3 (fun w':World=>w'.cell? (a_ Y)=some (.slice D u d)/\w'.cell? (f_ w 38)=some (.slice WA wn wc)/\w'.cell? (f_ w 40)=some (.slice DA dn dc))
  (first | (refine KS.o _ ?_;(first | (with_reducible exact Ah.o) | (with_reducible exact A1) | (with_reducible exact A9));done) | exact KR.o)
  (first
   | (go_at_call 135;refine (Written_t (fun k=>X k\/(w<=k/\k<w+3)\/k=Y) (K+L+k) D u d L WA wn wc wr.drew (hC.o.up (Kp.of_below Ah.o) (l_)) o_ (B3.o.up (Kp.of_below Ah.o) (l_)) o_ (fun k hk=>by have:=A8.o k hk;have:(wr.drew:Nat)=wr:=rfl;omega)).mono ?_;rintro e S ⟨⟨C2,q2,d3,rfl,Aq⟩,hS⟩;have A9:Below wr wr S:=Ah.o.trans hS;clear hS)
   | (go_at_call 134;refine (Reduced_t (fun k=>X k\/(w<=k/\k<w+3)\/k=Y) (K+L+k) C2 q2 d3 L DA dn dc S Aq.o o_ (AG.o.up (Kp.of_below A9) (l_)) o_ (fun k hk=>by have:=A8.o k hk;have:=A9.size;omega)).mono ?_;rintro e R ⟨⟨C3,q3,d4,rfl,B7⟩,hR⟩;have A1:Below wr wr R:=A9.trans (hR.mono A9.size);clear hR;have KR:=h_ (((R.setCell ⟨w+1+1,0,none⟩ (.slice C3 q3 d4)).cell? (a_ Y)=some (.slice D u d)/\(R.setCell ⟨w+1+1,0,none⟩ (.slice C3 q3 d4)).cell? (f_ w 38)=some (.slice WA wn wc)/\(R.setCell ⟨w+1+1,0,none⟩ (.slice C3 q3 d4)).cell? (f_ w 40)=some (.slice DA dn dc))) (⟨((Ak.o.below A1).far (by have:=A7.o;show (w:Nat)+2≠Y;omega) _).2.1 0 _ rfl,((Aa.o.below A1).far x8_ _).2.1 38 _ HF.o.2.1,((Aa.o.below A1).far x8_ _).2.1 40 _ HF.o.2.2⟩);have AO:=q_ (Aj.o.below A1);have AP:=q_ A1;have r0:=(Aj.o.below A1).2.1 0 _ rfl;have r1:=(Aj.o.below A1).2.2))
 go_wp2;refine retC results86 zd_ underlying35 rfl k_ (cs:=[_]) (AO.o.set 0 _).whole rfl ?_;have hb:Below w w (R.setCell ⟨w+1+1,0,none⟩ (.slice C3 q3 d4)):=(((HW.o.trans (An.o.mono (by have:=AA.o;omega))).trans (Al.o.below (B:=w) (by have:=A7.o;have:=Az.o;omega) (fun k hk h=>by have:=A7.o;omega))).trans (AP.o.mono (by have:=A7.o;have:=Az.o;omega))).setCell y9_ _;exact ⟨⟨_,_,_,rfl,q_ ((B7.o.up ((Kp.refl _ R).setCell (p:=⟨w+1+1,0,none⟩) (.inl (.inr (.inl ⟨y9_,ve_⟩))) _) (show K+L+k<=K+2*L by omega)).kept (Kp.refl _ _) (fun k _ h h2=>h (.inl h2)) (l_))⟩,hb⟩
theorem Apply_t (X:NP) (K:Nat) (A:OA) (n c:Nat) (L:Nat) (vs:VL) (w:World) (h:SlT w X K objT A n c) (hK:K<=1000000000000) (ht:VTs w X L effT vs) (hL:L<=1000000000000) (hX:∀ k,X k->k<w) :
  Calls prog 78 #[.agg #[.slice A n c],.agg vs.toArray] w fun e w'=>RH X (K+2*L) e w'/\Below w w w':=by
 obtain ⟨i0,AN,AQ,AR,AS⟩:=info_parts infoOb;obtain ⟨NA,nn,nc,Ac,A7⟩:=ht.slc (j:=36) (e:=objT) rfl;obtain ⟨WA,wn,wc,Ab,A8⟩:=ht.slc (j:=35) (e:=ap_) rfl;obtain ⟨W,hW,Aa,AM,B0,B1,B2⟩:=dw_ w [.slice A n c] 35 vs 145 [.slice none 0 0] 35;have Af:∀ k,k<w.heap.size->¬X k->¬(X k\/(w.heap.size<=k/\k<w.heap.size+3)):=fun k hk h1 h2=>by rcases h2 with h2 | h2;exact h1 h2;omega
 have H:=q_ (h.kept (Y:=fun k=>X k\/(w<=k/\k<w+3)) (Kp.of_below Aa) Af (Nat.le_refl K));have HN:=q_ (A7.kept (Y:=fun k=>X k\/(w<=k/\k<w+3)) (Kp.of_below Aa) Af (Nat.le_refl L));have AJ:=q_ (A8.kept (Y:=fun k=>X k\/(w<=k/\k<w+3)) (Kp.of_below Aa) Af (Nat.le_refl L));have HW:=q_ Aa;have AB:=q_ B0;have AC:=q_ B1;have AD:=q_ B2;have AO:=h.le;have AP:=A7.le;have AT:=A8.le;have Ae:=h_ (∀ k,(X k\/(w<=k/\k<w+3))->k<W) (fun k hk=>by rcases hk with hk | hk;have:=hX k hk;omega;omega);have c0:=B0.2.1 0 _ rfl;have f0:=B0.2.2;have Az:(w:Nat)+3=W:=by omega
 have Aw:=q_ Az;have HF:=q_ (And.intro Ac Ab);clear h ht hX B0 B1 B2 Aa AM A7 A8 Af Az Ac Ab;go_enter func78,ntmps78;go_upto_region 1 with fail;rw [<-hW];clear hW;have HA:=h_ (SlT W (Wi (fun k=>X k\/(w<=k/\k<w+3)) (Value.slice none 0 0).ownBlock) K objT A n c) (H.o.kept (Kp.refl _ _) (fun k _ h h2=>by rcases h2 with h2 | h2;exact h h2;cases h2) (Nat.le_refl K));go_upto_region 2 with (at_builtin;refine ao_ rfl _ _ 33 rfl W 90 i0 _ 32 objT (fun k=>X k\/(w<=k/\k<w+3)) K underlying33 AN AQ AR AS rfl d_ none 0 0 zb_ (OwT.nil _ _ _ _ _ _) A n c zb_ HA.o Ae.o m_ o_ (l_) ?_;intro A4 c4 w4 o4 g4 l4;rw [Nat.zero_add] at o4 l4 ⊢;have b4:Below W W w4:=ak_ g4 (l_) (fun k hk=>by cases hk);have O4:=q_ (o4.slT Ae.o AO);have BX:=q_ (AB.o.below b4);have m0:=BX.o.2.1 0 _ rfl;have m1:=BX.o.2.2;have B4:=q_ b4;clear o4 l4 g4 c0 f0 b4);obtain ⟨U,hU⟩:=ex_ (w4.setCell (a_ w) (.slice A4 n c4));have zW:=Aw.o;have Ap:=h_ (Kp (fun k=>k=w) W U) xj_;have Ar:=h_ (SlT U (fun k=>X k\/(w<=k/\k<w+3)) (K+L) objT A4 n c4) xf_;have Au:=h_ (Bx U w [.slice A4 n c4]) vc_;have Ah:=h_ (Bx U (w+1) vs) (by rw [hU];exact (AC.o.below B4.o).far z3_ _);have As:=h_ (Bx U (w+2) [.slice none 0 0]) (by rw [hU];exact (AD.o.below B4.o).far ye_ _);rw [<-hU];have AW:=Ah.o.2.1 36 _ HF.o.1;clear hU m0 m1;go_upto_region 3 with fail;clear AW;go_loopw [18] (fun i wr=>∃ (k:Nat) (C:OA) (q d:Nat),k<=nn/\i=i_ k/\Hid (SlT wr (fun k=>X k\/(w<=k/\k<w+3)) (K+L+k) objT C q d)/\Hid (Bx wr w [.slice C q d])/\Hid (Bx wr (w+1) vs)/\Hid (Bx wr (w+2) [.slice none 0 0])/\Hid (Kp (fun k=>k=w) W wr)) (fun i _=>nn - (intOf i).toNat)
 case atStart=>exact ⟨0,A4,n,c4,o_,rfl,Ar,Au,Ah,As,Ap⟩
 obtain ⟨k,C,q,d,hk,rfl,hC,A2,An,A5,A1⟩:=hrel;have AA:=A1.o.size;have A6:Kp (fun k=>X k\/(w<=k/\k<w+3)) W wr:=A1.o.mono (fun k _ h=>.inr ⟨o_,o_⟩);by_cases hlt:k<nn
 ·have A3:(k:Int)<(nn:Int):=by omega
  obtain ⟨g,o,rfl,hg,x,Ax,Ay,hx⟩:=(HN.o.up A6 (Nat.le_refl L)).obj_at hlt;obtain ⟨c4,c5⟩:=hx wr (b_);obtain ⟨V,hV,A0,Am,V0⟩:=af_ wr [i_ x.id,.slice x.A x.n x.c] 90;have v0:=V0.2.1 0 _ rfl;have v1:=V0.2.1 1 _ rfl;have c8:=(A2.o.below A0).2.1 0 _ rfl;have Aj:=q_ (A2.o.below A0);have AI:=q_ (An.o.below A0);have Ai:=q_ (A5.o.below A0);have Ad:=q_ (hC.o.up (Kp.of_below A0) (l_));have Ag:=q_ (A1.o.trans (.of_below A0));have AG:=q_ (Ax.up (Kp.of_below A0) (show L<=K+L+k by omega));have AH:=q_ (Ay.up A0);have AU:=A0.size;clear hx Ax Ay A6 A0 Am V0;go_upto_region 5 with fail;rw [<-hV];clear hV c4 c5;go_wp2_with fail;refine (Put_t (fun k=>X k\/(w<=k/\k<w+3)) (K+L+k) C q d x V Ad.o AG.o AH.o o_ (fun k hk=>by have:=Ae.o k hk;omega)).mono ?_;rintro e Z ⟨⟨C2,q2,d3,rfl,Al⟩,hZ⟩;have Ak:=q_ (Aj.o.below hZ);have AL:=q_ (AI.o.below hZ);have AK:=q_ (Ai.o.below hZ);have AF:=q_ (Ag.o.trans (.of_below hZ));have y0:=Ak.o.2.1 0 _ rfl;have y1:=Ak.o.2.2;clear hZ c8 v0 v1;go_wp2;go_roundw
  case rel=>exact ⟨k+1,C2,q2,d3,o_,zc_,q_ (Al.o.up ((Kp.refl _ Z).setCell (p:=(a_ w)) (.inl (.inr ⟨zx_,xl_⟩)) _) o_),q_ (Ak.o.set 0 _),q_ (AL.o.far z3_ _),q_ (AK.o.far ye_ _),q_ (AF.o.setCell (p:=(a_ w)) (.inl rfl) _)⟩
  case measure=>exact me_
 have A3:¬(k:Int)<(nn:Int):=by omega
 have AV:=An.o.2.1 35 _ HF.o.2;have Ao:=q_ (hC.o.up (Kp.refl _ wr) (show K+L+k<=K+2*L by omega));clear A6;go_upto_region 8 with fail;clear AV A3;go_loopw [29] (fun i w2=>∃ (m:Nat) (D:OA) (u d:Nat),m<=wn/\i=i_ m/\Hid (SlT w2 (fun k=>X k\/(w<=k/\k<w+3)) (K+2*L) objT D u d)/\Hid (Bx w2 w [.slice D u d])/\Hid (Bx w2 (w+2) [.slice none 0 0])/\Hid (Kp (fun k=>k=w) W w2)) (fun i _=>wn - (intOf i).toNat)
 case atStart=>exact ⟨0,C,q,d,o_,rfl,Ao,A2,A5,A1⟩
 clear Ar Au Ah As Ap hC A2 An A5 A1 Ao AA hk;obtain ⟨m,D,u,d5,hm,rfl,hC,A2,A5,A1⟩:=hrel;have AA:=A1.o.size;have b0:=A2.o.2.1 0 _ rfl;have b1:=A2.o.2.2;have b2:=A5.o.2.1 0 _ rfl;have b3:=A5.o.2.2;have A6:Kp (fun k=>X k\/(w<=k/\k<w+3)) W wr:=A1.o.mono (fun k _ h=>.inr ⟨o_,o_⟩);by_cases hlt:m<wn
 ·have A3:(m:Int)<(wn:Int):=by omega
  obtain ⟨g,o,rfl,hg,x,hx⟩:=(AJ.o.up A6 (Nat.le_refl L)).dx_ hlt;obtain ⟨c4,c5,c6,c7⟩:=hx wr (b_);obtain ⟨V,hV,A0,Am,V0⟩:=af_ wr [i_ x.id,i_ x.field,.bool x.ref,i_ x.n] 87;have v0:=V0.2.1 0 _ rfl;have v1:=V0.2.1 1 _ rfl;have v2:=V0.2.1 2 _ rfl;have v3:=V0.2.1 3 _ rfl;have c8:=(A2.o.below A0).2.1 0 _ rfl;have Aj:=q_ (A2.o.below A0);have Ai:=q_ (A5.o.below A0);have Ad:=q_ (hC.o.up (Kp.of_below A0) (l_));have Ag:=q_ (A1.o.trans (.of_below A0));have AU:=A0.size;clear hx A6 A0 Am V0 b0 b1 b2 b3;go_upto_region 10 with fail;rw [<-hV];clear hV c4 c5 c6 c7;go_wp2_with fail;refine (Write_t (fun k=>X k\/(w<=k/\k<w+3)) (K+2*L) D u d5 x.id x.field ⟨x.ref,x.n⟩ V Ad.o o_ (fun k hk=>by have:=Ae.o k hk;omega)).mono ?_;rintro e Y ⟨⟨C2,q2,d3,b,rfl,Al⟩,hY⟩;have A9:=q_ (Aj.o.below hY);have Av:=q_ (Ai.o.below hY);have AE:=q_ (Ad.o.up (Kp.of_below hY) (l_));have Aq:=q_ (Ag.o.trans (.of_below hY));have y0:=A9.o.2.1 0 _ rfl;have y1:=A9.o.2.2;have AX:(w:Nat)<Y:=A9.o.1;clear hY c8 v0 v1 v2 v3;go_wp2;all_goals first
   | (go_roundw
      case rel=>exact ⟨m+1,C2,q2,d3,o_,zc_,q_ (Al.o.up (((Kp.refl _ Y).setCell (p:=(a_ w)) (.inl (.inr ⟨zx_,xl_⟩)) _).alloc _) (l_)),q_ ((A9.o.set 0 _).alloc _),q_ ((Av.o.far ye_ _).alloc _),q_ ((Aq.o.setCell (p:=(a_ w)) (.inl rfl) _).alloc _)⟩
      case measure=>exact me_)
   | (go_roundw
      case rel=>exact ⟨m+1,D,u,d5,o_,zc_,q_ (AE.o.up ((Kp.refl _ Y).alloc _) (l_)),q_ (A9.o.alloc _),q_ (Av.o.alloc _),q_ (Aq.o.alloc _)⟩
      case measure=>exact me_)
 have A3:¬(m:Int)<(wn:Int):=by omega
 clear A6;go_wp2;refine retC results78 zd_ underlying35 rfl k_ (cs:=[_]) (A5.o.set 0 _).whole rfl ?_;have hb:Below w w (wr.setCell (a_ (w+2)) (.slice D u d5)):=(HW.o.trans (A1.o.below (B:=w) (by have:=Aw.o;omega) (fun k hk h=>o_))).setCell yt_ _;exact ⟨⟨_,_,_,rfl,q_ ((hC.o.up ((Kp.refl _ wr).setCell (p:=(a_ (w+2))) (.inl (.inr ⟨yt_,by show (w:Nat)+2<w+3;omega⟩)) _) (l_)).kept (Kp.refl _ _) (fun k _ h h2=>h (.inl h2)) (l_))⟩,hb⟩
section
variable {P:Program} {w:World} {ops:Array Oper} {rest:List Oper} {o:Oper} {a:Act} {Q:Exit->Act->World->Prop} {t et:TypeId} {bytes:Nat} {e:List CT} {X:NP} {K base n c m d:Nat} {A B:OA}
theorem cy_ (hgd:o.guard=none) (s x:Operand) (ho:o.op=.call { callee:=.builtin .append,args:=#[s,x],argTypes:=#[t,t] }) (E:EI P t et e bytes)
  (hs:a.eval s=.slice A n c) (hown:OwT w base et e X K A n c) (hx:a.eval x=.slice B m d) (hsrc:SlT w (Wi X (Value.slice A n c).ownBlock) K e B m d)
  (hX:∀ k,X k->k<w) (h63:n+m<=maxLen) (hbytes:(n+m)*bytes<=140737488355328) (hbase:base<=w)
  (h:∀ A' c' w',OwT w' base et e X K A' (n+m) c'->w.grownBy w' (Value.slice A n c).ownBlock->(∀ g,(Value.slice A' (n+m) c').ownBlock=some g->(Value.slice A n c).ownBlock=some g\/g=w)->wpList P ops Q rest (a.put o.dst (.slice A' (n+m) c')) w'):wpList P ops Q (o :: rest) a w:=by
 obtain ⟨i,z,hi,hz,A0,A1,A2⟩:=E.hi;exact ao_ hgd s x t ho base et i z bytes e X K E.ht hi hz A0 A1 A2 E.hsz A n c hs hown B m d hx hsrc hX h63 hbytes hbase h
theorem da_ {K0:Act->World->Prop} {El:Prop} (hgd:o.guard=none) (s x:Operand) (ho:o.op=.call { callee:=.builtin .append,args:=#[s,x],argTypes:=#[t,t] }) (E:EI P t et e bytes)
  (hs:a.eval s=.slice A n c) (hown:OwT w base et e X K A n c) (hx:a.eval x=.slice B m d) (hsrc:SlT w (Wi X (Value.slice A n c).ownBlock) K e B m d)
  (hX:∀ k,X k->k<w) (h63:n+m<=maxLen) (hbytes:(n+m)*bytes<=140737488355328) (hbase:base<=w)
  (h:∀ A' c' w',OwT w' base et e X K A' (n+m) c'->w.grownBy w' (Value.slice A n c).ownBlock->(∀ g,(Value.slice A' (n+m) c').ownBlock=some g->(Value.slice A n c).ownBlock=some g\/g=w)->K0 (a.put o.dst (.slice A' (n+m) c')) w') :
  if Region.wanted o (yielded ops a.tmps)=true then Oper.wp P o a w K0 Q else El:=by
 obtain ⟨i,z,hi,hz,A0,A1,A2⟩:=E.hi;exact bt_ hgd s x t ho base et i z bytes e X K E.ht hi hz A0 A1 A2 E.hsz A n c hs hown B m d hx hsrc hX h63 hbytes hbase h
end
theorem SlT.less2 {X Y:NP} {w:World} {K:Nat} {e:List CT} {A:OA} {n c:Nat} (h:SlT w X K e A n c) (hXY:∀ k,k<w.heap.size->Y k->X k):SlT w Y K e A n c:=h.kept (Kp.refl _ _) (fun k hk hx hy=>hx (hXY k hk hy)) (l_)
theorem ei_str:EI prog 188 9 [.txt] 16:=EI.of (z:=.string ByteArray.empty) underlying188 k_ rfl d_
def nX:NP:=fun _=>False
def ownX (A:OA) (n c:Nat):NP:=fun k=>(Value.slice A n c).ownBlock=some k
structure Gr (w:World) (base K:Nat) (A:OA) (n c m:Nat) (A':OA) (n' c':Nat) (w':World):Prop where
 lo:n<=n'
 hi:n'<=n+m
 own:OwT w' base 9 [.txt] nX K A' n' c'
 kp:Kp (ownX A n c) w w'
 loc:∀ g,(Value.slice A' n' c').ownBlock=some g->(Value.slice A n c).ownBlock=some g\/w<=g
def RGr (w:World) (base K:Nat) (A:OA) (n c m:Nat) (e:Ending) (w':World):Prop:=∃ A' n' c',e=.returned (.slice A' n' c')/\Hid (Gr w base K A n c m A' n' c' w')
theorem Gr.refl {w:World} {base K:Nat} {A:OA} {n c:Nat} (h:OwT w base 9 [.txt] nX K A n c) (m:Nat):Gr w base K A n c m A n c w:=⟨l_,Nat.le_add_right _ _,h,Kp.refl _ _,fun g hg=>.inl hg⟩
theorem Gr.trans {w w' w2:World} {base K:Nat} {A A' A2:OA} {n c m n' c' m' n2 c2:Nat} (h:Gr w base K A n c m A' n' c' w') (h2:Gr w' base K A' n' c' m' A2 n2 c2 w2):Gr w base K A n c (m+m') A2 n2 c2 w2 :=
 ⟨Nat.le_trans h.lo h2.lo,by have:=h.hi;have:=h2.hi;omega,h2.own,by
  refine ⟨h2.kp.os.trans h.kp.os,h2.kp.tape.trans h.kp.tape,h2.kp.output.trans h.kp.output,Nat.le_trans h.kp.size h2.kp.size,fun k hk hx=>(h2.kp.block k (lt_ hk h.kp.size) (fun A0=>?_)).trans (h.kp.block k hk hx)⟩
  rcases h.loc k A0 with h3 | h3
  ·exact hx h3
  ·omega,fun g hg=>by
  rcases h2.loc g hg with h3 | h3
  ·exact h.loc g h3
  exact .inr (Nat.le_trans h.kp.size h3)⟩
theorem OwT.names {w:World} {base K:Nat} {A:OA} {n c:Nat} (h:OwT w base 9 [.txt] nX K A n c) (hn:n<=K):SlT w nX K [.txt] A n c:=h.slT (fun k h=>h.elim) hn
theorem Gr.below {w w' w2:World} {base K:Nat} {A A':OA} {n c m n' c':Nat} (h:Gr w base K A n c m A' n' c' w') (hb:Below w' w' w2):Gr w base K A n c m A' n' c' w2 :=
 ⟨h.lo,h.hi,h.own.below hb,h.kp.ba_ hb,h.loc⟩
theorem Gr.more {w w':World} {base K:Nat} {A A':OA} {n c m m' n' c':Nat} (h:Gr w base K A n c m A' n' c' w') (hm:m<=m'):Gr w base K A n c m' A' n' c' w' :=
 ⟨h.lo,by have:=h.hi;omega,h.own,h.kp,h.loc⟩
theorem lit_names {w:World} {A:OA} {n c K:Nat} (s:ByteArray) (h:∀ g,(Value.slice A n c).ownBlock=some g->g<w) (hK:1<=K):SlT (w.alloc (.cells #[.string s] 9)) (Wi nX (Value.slice A n c).ownBlock) K [.txt] (some (a_ w)) 1 1 :=
 SlT.lit1 (VTs.cons (.txt s) VTs.nil) 9 (fun hx=>by
  rcases hx with hx | hx
  ·exact hx
  have:=h _ hx;omega) hK
theorem OwT.olt {w:World} {base K:Nat} {et:TypeId} {e:List CT} {X:NP} {A:OA} {n c:Nat} (h:OwT w base et e X K A n c):∀ g,(Value.slice A n c).ownBlock=some g->g<w:=fun g hg=>by obtain ⟨xs,ho,_⟩:=h;exact (am_ ho hg).2
theorem add_t (w:World) (base K:Nat) (A:OA) (n c:Nat) (s:ByteArray) (h:OwT w base 9 [.txt] nX K A n c) (hn:n+1<=K) (hK:K<=900000000) (hb:base<=w) :
  Calls prog 163 #[.slice A n c,.string s] w fun e w'=>RGr w base K A n c 1 e w':=by
 have H:=q_ h;clear h;go_enter func163,ntmps163;go_wp2_with fail;refine (Has_any A n c s nX K w (H.o.names o_) hK).mono ?_;rintro e W ⟨⟨b,rfl⟩,hB⟩;have HB:=q_ hB;clear hB;have G0:=q_ ((Gr.refl H.o 0).below HB.o);cases b
 case true =>
  go_wp2;go_ret;exact ⟨A,n,c,rfl,q_ (G0.o.more o_)⟩
 have HU:=q_ (lit_names (w:=W) (A:=A) (n:=n) (c:=c) (K:=K) s G0.o.own.olt o_);have HO:=q_ (G0.o.own.below ((b_).alloc (l_) (.cells #[.string s] 9)));have A0:base<=W:=Nat.le_trans hb HB.o.size;go_wp2_with (at_builtin;refine cy_ rfl _ _ rfl ei_str zb_ HO.o zb_ HU.o (fun k h=>h.elim) m_ o_ za_ ?_;intro A5 c5 w5 o5 g5 l5;have O5:=q_ o5;have G5:=q_ g5;have L5:=q_ l5;clear o5 g5 l5);go_ret;refine ⟨_,_,_,rfl,q_ ⟨o_,l_,O5.o,?_,fun g hg=>?_⟩⟩
 ·exact ((G0.o.kp.alloc _).grown G5.o (fun k hk=>.inl hk))
 rcases L5.o g hg with h1 | h1
 ·exact .inl h1
 exact .inr (by rw [h1];have:=HB.o.size;simp;omega)
end Go.Proofs.YtfolidlmgfhkiaaGreat
namespace Go.Proofs.YtfolidlmgfhkiaaGreat
open Go.RowKit Go.Proofs.Tryz
attribute [local go_sem ↓] exec48
structure SlE (w:World) (B:Nat) (X:NP) (K:Nat) (e:List CT) (A:OA) (n:Nat):Prop where
 le:n<=K
 el:∀ k,k<n->∃ g o,A=some (f_ g o)/\g<B/\B<=w/\∃ vs,VTs w X K e vs/\∀ j u,vs[j]?=some u->w.cell? ⟨g,o+k*e.length+j,none⟩=some u
theorem SlE.kept {w w':World} {B K n:Nat} {X Y Z:NP} {e:List CT} {A:OA} (h:SlE w B X K e A n) (hk:Kp Z w w') (hZ:∀ k,k<w.heap.size->Z k->X k/\B<=k) (hXY:∀ k,k<w.heap.size->¬X k->¬Y k):SlE w' B Y K e A n :=
 ⟨h.le,fun k A0=>by
  obtain ⟨g,o,hA,hg,hB,vs,hv,hm⟩:=h.el k A0
  exact ⟨g,o,hA,hg,Nat.le_trans hB hk.size,vs,hv.kept (hk.mono (fun q hq h=>(hZ q hq h).1)) hXY (l_),fun j u hu=>(hk.cell o_ (fun h=>by have:=(hZ g o_ h).2;omega)).trans (hm j u hu)⟩⟩
theorem SlE.at0 {w:World} {B K n k:Nat} {X:NP} {e:List CT} {A:OA} (h:SlE w B X K e A n) (hk:k<n):∃ g o,A=some (f_ g o)/\g<w/\∃ vs,VTs w X K e vs/\∀ w',Below w w w'->∀ j u,vs[j]?=some u->w'.cell? ⟨g,o+k*e.length+j,none⟩=some u:=by
 obtain ⟨g,o,hA,hg,hB,vs,hv,hm⟩:=h.el k hk;exact ⟨g,o,hA,o_,vs,hv,fun w' hb j u hu=>(belc hb o_).trans (hm j u hu)⟩
theorem OwT.sle {w:World} {base K n c:Nat} {et:TypeId} {e:List CT} {Y:NP} {A:OA} (h:OwT w base et e Y K A n c) (hn:n<=K):SlE w w (Wi Y (Value.slice A n c).ownBlock) K e A n:=by
 obtain ⟨xs,A0,hx⟩:=h;refine ⟨hn,fun k hk=>?_⟩;rcases A0.2 with ⟨h',_⟩ | ⟨g,cap,cur,h',hbg,hg,_⟩
 ·injection h' with q1 q2 q3;omega
 injection h' with q1 _ q3;subst q1 q3;have A2:=(own_src A0).2 _ rfl;refine ⟨g,0,rfl,?_,l_,(List.range e.length).map (fun j=>xs.getD (k*e.length+j) undef),⟨zm_,fun j t hj=>?_⟩,fun j u hu=>?_⟩
 ·rcases Nat.lt_or_ge g w with q | q
  ·exact q
  rw [Array.getElem?_eq_none q] at hg;cases hg
 ·have A1:j<e.length:=(e_ hj).1;obtain ⟨u,hu,hv⟩:=hx k j t hk hj;refine ⟨u,?_,hv⟩;rw [List.getElem?_map,List.getElem?_range A1];show some (xs.getD (k*e.length+j) undef)=some u
  rw [List.getD_eq_getElem?_getD,hu];rfl
 have A1:j<e.length:=by have:=(e_ hu).1;simpa using this
 rw [List.getElem?_map,List.getElem?_range A1] at hu;injection hu with hu;obtain ⟨v,A3,A4⟩:=hx k j _ hk (ge_ A1);have hu:xs.getD (k*e.length+j) undef=u:=hu;rw [List.getD_eq_getElem?_getD,A3] at hu;have hu:v=u:=hu;subst hu;have:=A2 _ v A3;rw [Addr.add_lit] at this;rw [show 0+k*e.length+j=0+(k*e.length+j) from by omega];exact this
theorem View_e (X:NP) (K:Nat) (A:OA) (n c:Nat) (L N:Nat) (TA:OA) (tn tc:Nat) (kk:Int) (w:World) (h:SlT w X K objT A n c) (ht:SlE w w X L ae_ TA tn) (hN:tn<=N) (hK:K+2*L*N<=1000000000000) (hL:L<=1000000000000) (hX:∀ k,X k->k<w) :
  Calls prog 47 #[.agg #[.slice A n c],.slice TA tn tc,i_ kk] w fun e w'=>RH X (K+2*L*N) e w'/\Below w w w':=by
 obtain ⟨i0,AE,AH,AI,AJ⟩:=info_parts infoOb;obtain ⟨W,hW,Ae,AD,B0,B1⟩:=cn_ w [.slice A n c] 35 [.slice none 0 0] 35;have Ag:∀ k,k<w.heap.size->¬X k->¬(X k\/(w.heap.size<=k/\k<w.heap.size+2)):=fun k hk h1 h2=>by rcases h2 with h2 | h2;exact h1 h2;omega
 have H:=q_ (h.kept (Y:=fun k=>X k\/(w<=k/\k<w+2)) (Kp.of_below Ae) Ag (Nat.le_refl K));have HT:=q_ (ht.kept (Y:=fun k=>X k\/(w<=k/\k<w+2)) (Kp.of_below (X:=fun _=>False) Ae) (fun _ _ h=>h.elim) Ag);have HW:=q_ Ae;have Ax:=q_ B1;have AG:=h.le;have AL:=ht.le;have Aj:∀ i,i<=tn->2*L*i<=2*L*N:=fun i hi=>Nat.mul_le_mul_left _ o_
 have A8:=h_ (∀ k,(X k\/(w<=k/\k<w+2))->k<W) (fun k hk=>by rcases hk with hk | hk;have:=hX k hk;omega;omega);have Av:(w:Nat)+2=W:=by omega
 have Ah:=q_ Av;have c0:=B0.2.1 0 _ rfl;have AK:=Aj 0 o_;have Ab:=q_ Aj;clear h ht hX B0 B1 Ae AD Ag Av Aj;go_enter func47,ntmps47;go_upto_region 1 with fail;rw [<-hW];clear hW;have HA:=h_ (SlT W (Wi (fun k=>X k\/(w.heap.size<=k/\k<w.heap.size+2)) (Value.slice none 0 0).ownBlock) K objT A n c) (H.o.kept (Kp.refl _ _) (fun k _ h h2=>by rcases h2 with h2 | h2;exact h h2;cases h2) (Nat.le_refl K));go_upto_region 2 with (at_builtin;refine ao_ rfl _ _ 33 rfl W.heap.size 90 i0 _ 32 objT (fun k=>X k\/(w.heap.size<=k/\k<w.heap.size+2)) K underlying33 AE AH AI AJ rfl d_ none 0 0 zb_ (OwT.nil _ _ _ _ _ _) A n c zb_ HA.o A8.o m_ o_ (l_) ?_;intro A4 c4 w4 o4 g4 l4;rw [Nat.zero_add] at o4 l4 ⊢;have b4:Below W.heap.size W w4:=ak_ g4 (l_) (fun k hk=>by cases hk);have O4:=q_ (o4.slT A8.o AG);have B4:=q_ b4;clear o4 l4 g4 b4 c0);obtain ⟨V,hV,Ad,AC,V0⟩:=af_ w4 [.slice A4 n c4] 35;have Aw:=B4.o.size;have Ai:∀ k,k<w4.heap.size->¬(X k\/(w.heap.size<=k/\k<w.heap.size+2))->¬(fun k=>X k\/(w.heap.size<=k/\k<w.heap.size+2)\/k=w4.heap.size) k:=fun k hk h1 h2=>by rcases h2 with h2 | h2 | h2;exact h1 (.inl h2);exact h1 (.inr h2);omega
 have Ay:=q_ (O4.o.kept (Y:=(fun k=>X k\/(w<=k/\k<w+2)\/k=w4)) (Kp.of_below Ad) Ai (show K<=K+2*L*0 by omega));have Az:=q_ ((HT.o.kept (Kp.of_below (X:=fun _=>False) B4.o) (fun _ _ h=>h.elim) (fun _ _ h=>h)).kept (Y:=(fun k=>X k\/(w<=k/\k<w+2)\/k=w4)) (Kp.of_below (X:=fun _=>False) Ad) (fun _ _ h=>h.elim) Ai);have Af:=h_ (Below W W V) (B4.o.trans (Ad.mono Aw));have AA:=q_ (Ax.o.below Af.o);have AB:=q_ V0;have Ar:=h_ (∀ k,(fun k=>X k\/(w<=k/\k<w+2)\/k=w4) k->k<V) (fun k hk=>by rcases hk with hk | hk | hk;have:=A8.o k (.inl hk);omega;have:=A8.o k (.inr hk);omega;omega);have A7:=q_ (show (w:Nat)+2<=w4 by have:=Ah.o;omega);have Aq:=q_ (show (w4:Nat)<V by omega);rw [<-hV];clear hV Ad AC V0 Ai Aw H HT HA A8;go_upto_region 3 with fail;go_loopw [8] (fun i wr=>∃ (k:Nat) (D:OA) (u d:Nat),k<=tn/\i=i_ k/\Hid (SlT wr (fun k=>X k\/(w<=k/\k<w+2)\/k=w4) (K+2*L*k) objT D u d)/\Hid (Bx wr w4 [.slice D u d])/\Hid (Bx wr (w+1) [.slice none 0 0])/\Hid (Kp (fun k=>k=w4) V wr)) (fun i _=>tn - (intOf i).toNat)
 case atStart=>exact ⟨0,A4,n,c4,o_,rfl,Ay,AB,AA,q_ (Kp.refl _ _)⟩
 obtain ⟨k,D,u,d,hk,rfl,hC,A9,A3,A5⟩:=hrel;have AN:=A5.o.size;have Al:Kp (fun k=>X k\/(w<=k/\k<w+2)\/k=w4) V wr:=A5.o.mono (fun k _ h=>.inr (.inr h));by_cases h1:(k:Int)<kk
 ·by_cases h2:(k:Int)<(tn:Int)
  ·obtain ⟨g,o,rfl,hg,vs,Am,A0⟩:=(Az.o.kept A5.o (fun q _ hq=>⟨.inr (.inr hq),by have:=A7.o;omega⟩) (fun _ _ h=>h)).at0 (k:=k) o_;have AM:(prog.info? 65).map (·.size)=some vs.length:=by rw [Am.1];kernel_rfl
   have AF:ae_.length=48:=rfl;rw [AF] at A0;have Ac:=q_ Am;have An:=h_ (∀ w',Below wr wr w'->w'.rangeAt g (o+k*48) vs) (fun w' hb j v hv=>A0 w' hb j v hv);have Ak:Below wr wr wr.drew:=Below.drew (b_);have A2:=q_ Ak;have b0:=(A9.o.below Ak).2.1 0 _ rfl;clear Am A0 Al Ak;go_upto_region 5 with fail;have Au:There48 wr.drew (.pointer (some ⟨g,o+k*48,none⟩)):=⟨g,o+k*48,vs,rfl,Ac.o.1,An.o _ A2.o⟩;have Aa:row48V wr.drew (.pointer (some ⟨g,o+k*48,none⟩))=vs.toArray:=row48_at Ac.o.1 (An.o _ A2.o);go_region_law (first
    | (go_at_call 83;refine (Over_t (fun k=>X k\/(w<=k/\k<w+2)\/k=w4) (K+2*L*k) D u d L vs wr.drew (hC.o.up (Kp.of_below A2.o) (l_)) (by have:=Ab.o k hk;omega) (Ac.o.up (Kp.of_below A2.o) (l_)) hL (fun q hq=>by have:=Ar.o q hq;have:(wr.drew:Nat)=wr:=rfl;omega)).mono ?_;rintro e S ⟨⟨C2,q2,d3,rfl,As⟩,hS⟩;have A1:Below wr wr S:=A2.o.trans hS;have A6:=q_ (A9.o.below A1);have Ap:=q_ (A3.o.below A1);have Ao:=q_ (A5.o.trans (.of_below A1));have y0:=A6.o.2.1 0 _ rfl;have y1:=A6.o.2.2;clear hS A1 b0 Au Aa)
    | (go_simp;go_at_call 83;refine (Over_t (fun k=>X k\/(w<=k/\k<w+2)\/k=w4) (K+2*L*k) D u d L vs wr.drew (hC.o.up (Kp.of_below A2.o) (l_)) (by have:=Ab.o k hk;omega) (Ac.o.up (Kp.of_below A2.o) (l_)) hL (fun q hq=>by have:=Ar.o q hq;have:(wr.drew:Nat)=wr:=rfl;omega)).mono ?_;rintro e S ⟨⟨C2,q2,d3,rfl,As⟩,hS⟩;have A1:Below wr wr S:=A2.o.trans hS;have A6:=q_ (A9.o.below A1);have Ap:=q_ (A3.o.below A1);have Ao:=q_ (A5.o.trans (.of_below A1));have y0:=A6.o.2.1 0 _ rfl;have y1:=A6.o.2.2;clear hS A1 b0 Au Aa))
   all_goals
    try go_wp2
    go_roundw
    case rel=>exact ⟨k+1,C2,q2,d3,o_,zc_,q_ (As.o.up ((Kp.refl _ S).setCell (p:=(a_ w4)) (.inl (.inr (.inr rfl))) _) (by rw [Nat.mul_succ];omega)),q_ (A6.o.set 0 _),q_ (Ap.o.far (by have:=A7.o;show (w4:Nat)≠w+1;omega) _),q_ (Ao.o.setCell (p:=(a_ w4)) (.inl rfl) _)⟩
    case measure=>exact me_
  exact v2_
 exact v2_
end Go.Proofs.YtfolidlmgfhkiaaGreat
namespace Go.Proofs.YtfolidlmgfhkiaaGreat.Pr
open Go.RowKit Go.Proofs.Tryz
theorem reftrain_any (A:OA) (n c:Nat) (ts:List Trk) (key:Int) (v:Val) (w:World) (hs:Sl w w 5 Trk.cells A n ts) (hn:n<=900000) (hg:Good ts) :
  Calls prog 60 #[.agg #[.slice A n c],i_ key,v.value] w (Gives (cl_ ts key v) w):=by
 cases hh:hit ts key
 ·exact reftrain_new A n c ts key v w hs hn hh
 exact reftrain_old A n c ts key v w hs hn hg hh
theorem sane_any (w:World):Calls prog 15 #[] w fun e w'=>e=.returned (.bool true)/\Below w w w':=by
 go_enter func15,ntmps15;go_wp2_with fail;refine (train_any none 0 0 [] 9 ⟨false,3⟩ _ Sl.nil o_ good_nil).mono ?_;rintro e w1 ⟨A1,n1,c1,rfl,Ae,Ad,_⟩;have Aj:n1=1:=Ae.len.symm;subst Aj;go_wp2_with fail;refine (train_any A1 1 c1 exA 9 ⟨false,5⟩ _ Ae o_ exA_good).mono ?_;rintro e w2 ⟨A2,n2,c2,rfl,A9,Ai,_⟩;have Ak:n2=1:=A9.len.symm;subst Ak;have A3:=Ad.trans (Ai.mono Ad.size);go_wp2_with fail;have q0:(w2.alloc (.cells #[.slice A2 1 c2] 59)).cell? (a_ w2)=some (.slice A2 1 c2):=by simp
 refine (stride_any A2 1 c2 exB 9 _ ((A9.below ((b_).alloc (l_) _)).mono t_) o_ exB_good.1).mono ?_;rintro e w3 ⟨rfl,Aa⟩;have Al:=Aa.size;simp only [World.size_alloc] at Al;have p3:=(Aa.cell (p:=(a_ w2)) t_).trans q0;have l3:(w2:Nat)<w3:=by omega
 have A5:Below w2 w2 w3:=((b_).alloc (l_) _).trans (Aa.mono t_);rw [exB_stride,exB_hit,Val.value];go_wp2_with fail;have Aq:(w3.alloc (.cells #[.bool false,i_ 7] 38)).cell? (a_ w2)=some (.slice A2 1 c2):=(ai_ _ _ _ _ l3).trans p3;have a3:(w3.alloc (.cells #[.bool false,i_ 7] 38)).cell? (f_ w3 1)=some (i_ 7):=by simp
 refine (last_any A2 1 c2 exB 9 _ (((A9.below A5).below ((b_).alloc o_ _)).mono za_) o_ exB_good.1).mono ?_;rintro e w4 ⟨rfl,A7⟩;have Am:=A7.size;simp only [World.size_alloc] at Am;have p4:=(A7.cell (p:=(a_ w2)) za_).trans Aq;have a4:=(A7.cell (p:=(f_ w3 1)) t_).trans a3;have l4:(w2:Nat)<w4:=by omega
 have Ao:(w3:Nat)<w4:=by omega
 have A6:Below w2 w2 w4:=(A5.alloc o_ _).trans (A7.mono za_);rw [exB_last,exB_hit,Val.value];go_wp2_with fail;have Ar:(w4.alloc (.cells #[.bool false,i_ 5] 38)).cell? (a_ w2)=some (.slice A2 1 c2):=(ai_ _ _ _ _ l4).trans p4;have Af:(w4.alloc (.cells #[.bool false,i_ 5] 38)).cell? (f_ w3 1)=some (i_ 7):=(ai_ _ _ _ _ Ao).trans a4;have b4:(w4.alloc (.cells #[.bool false,i_ 5] 38)).cell? (f_ w4 1)=some (i_ 5):=by simp
 refine (last_any A2 1 c2 exB 8 _ (((A9.below A6).below ((b_).alloc o_ _)).mono za_) o_ exB_good.1).mono ?_;rintro e w5 ⟨rfl,A4⟩;have An:=A4.size;simp only [World.size_alloc] at An;have p5:=(A4.cell (p:=(a_ w2)) za_).trans Ar;have a5:=(A4.cell (p:=(f_ w3 1)) za_).trans Af;have b5:=(A4.cell (p:=(f_ w4 1)) t_).trans b4;have l5:(w2:Nat)<w5:=by omega
 have Ap:(w3:Nat)<w5:=by omega
 have Ac:(w4:Nat)<w5:=by omega
 have A0:Below w w w5:=A3.trans (((A6.alloc o_ _).trans (A4.mono za_)).mono (by have:=A3.size;omega));rw [exB_no,exB_last8,Val.value];go_wp2_with fail;have As:∀ o,(w5.alloc o).cell? (a_ w2)=some (.slice A2 1 c2):=fun o=>(ai_ _ _ _ _ l5).trans p5
 have Ag:∀ o,(w5.alloc o).cell? (f_ w3 1)=some (i_ 7):=fun o=>(ai_ _ _ _ _ Ap).trans a5
 have Ah:∀ o,(w5.alloc o).cell? (f_ w4 1)=some (i_ 5):=fun o=>(ai_ _ _ _ _ Ac).trans b5
 refine (key_any 0 3 _).mono ?_;rintro e w6 ⟨rfl,A8⟩;have p6:=(A8.cell (p:=(a_ w2)) za_).trans (As _);have a6:=(A8.cell (p:=(f_ w3 1)) za_).trans (Ag _);have b6:=(A8.cell (p:=(f_ w4 1)) za_).trans (Ah _);have Ab:Below w w w6:=(A0.alloc (by have:=A0.size;omega) _).trans (A8.mono (by have:=A0.size;simp;omega));rw [show keyV 0 3=.tuple #[i_ 259,i_ 0] from rfl];go_wp2;go_ret;exact ⟨rfl,Ab⟩
end Go.Proofs.YtfolidlmgfhkiaaGreat.Pr
namespace Go.Proofs.YtfolidlmgfhkiaaGreat
open Go.RowKit Go.Proofs.Tryz
def cw:Nat->Nat
 | 0=>20
 | d+1=>20*(1+2*cw d)
theorem Gr.stay {w w':World} {base K:Nat} {A A':OA} {n c m n' c':Nat} (h:Gr w base K A n c m A' n' c' w') {p:VL->Prop} {e:List CT} {B:OA} {q r L:Nat} (hp:SlP w (ownX A n c) L p e B q r):SlP w' (ownX A' n' c') L p e B q r :=
 hp.kept h.kp (fun k hk hn hx=>by rcases h.loc k hx with h1 | h1;exact hn h1;omega) (l_)
theorem Gr.stc {w w':World} {base K:Nat} {A A':OA} {n c m n' c':Nat} (h:Gr w base K A n c m A' n' c' w') {k:Nat} {kd:Int} {s f:ByteArray} {nn op:Int} {D E B C:OA} {q1 q2 m1 c1 m2 c2 g o:Nat} (hs:StC w D k kd s f nn op E B C q1 q2 m1 c1 m2 c2 g o) (hg:¬ownX A n c g):StC w' D k kd s f nn op E B C q1 q2 m1 c1 m2 c2 g o:=by
 have hc:∀ j,w'.cell? (f_ g j)=w.cell? (f_ g j):=fun j=>h.kp.cell hs.lt hg
 exact ⟨hs.hA,lt_ hs.lt h.kp.size,(hc _).trans hs.k0,(hc _).trans hs.k1,(hc _).trans hs.k2,(hc _).trans hs.k3,(hc _).trans hs.k4,(hc _).trans hs.k5,(hc _).trans hs.k6,(hc _).trans hs.k7⟩
theorem Gr.cell {w w':World} {base K:Nat} {A A':OA} {n c m n' c':Nat} (h:Gr w base K A n c m A' n' c' w') {b j:Nat} (hb:b<w) (hn:¬ownX A n c b):w'.cell? (f_ b j)=w.cell? (f_ b j):=h.kp.cell hb hn
theorem walk_step (base K cst:Nat) (hK:K<=900000000) (B:OA) (nb cb:Nat) (A:OA) (n c:Nat) (w:World) (hnb:nb<=20) (h:OwT w base 9 [.txt] nX K A n c) (hn:n+nb*(1+2*cst)<=K) (hb:base<=w)
  (hk:∀ k,k<nb->∃ (kd:Int) (s f:ByteArray) (nn op:Int) (E B' C:OA) (m c' m1 c1 m2 c2 g o:Nat),StC w B k kd s f nn op E B' C m c' m1 c1 m2 c2 g o/\¬ownX A n c g ∧
   ∀ (A':OA) (n' c' q:Nat) (w' w2:World),Gr w base K A n c q A' n' c' w2->w'=w2->n'+cst<=K->(Calls prog 164 #[.slice A' n' c',.slice B' m1 c1] w' fun e w''=>RGr w' base K A' n' c' cst e w'')/\Calls prog 164 #[.slice A' n' c',.slice C m2 c2] w' fun e w''=>RGr w' base K A' n' c' cst e w'') :
  Calls prog 164 #[.slice A n c,.slice B nb cb] w fun e w'=>RGr w base K A n c (nb*(1+2*cst)) e w':=by
 have H:=q_ h;have HK:=q_ hk;clear h hk;go_enter func164,ntmps164;go_upto_region 2 with fail;go_loopw [0,9] (fun v i wr=>∃ (k:Nat) (A':OA) (n' c':Nat),k<=nb/\v=.slice A' n' c'/\i=i_ k/\n'<=n+k*(1+2*cst)/\Hid (Gr w base K A n c (k*(1+2*cst)) A' n' c' wr)) (fun _ i _=>nb - (intOf i).toNat)
 case atStart=>exact ⟨0,A,n,c,o_,rfl,rfl,o_,q_ (Gr.refl H.o _)⟩
 obtain ⟨k,A1,n1,c1,Aq,rfl,rfl,Ar,HG⟩:=hrel;have An:(w:Nat)<=wr:=HG.o.kp.size;by_cases hlt:k<nb
 ·have Ac:(k:Int)<(nb:Int):=by omega
  have Am:(k+1)*(1+2*cst)<=nb*(1+2*cst):=Nat.mul_le_mul_right _ hlt;have Ae:(k+1)*(1+2*cst)=k*(1+2*cst)+1+cst+cst:=by rw [Nat.succ_mul];omega
  obtain ⟨kd,s,f,nn,op,E,B',C,m,c',m1,A9,m2,c2,g,o,Ag,Af,A0⟩:=HK.o k hlt;obtain ⟨rfl,hg,k0,k1,k2,k3,k4,k5,k6,k7⟩:=HG.o.stc Ag Af;obtain ⟨V,hV,Aa,Ap,B0⟩:=af_ wr [i_ kd,.string s,.string f,i_ nn,i_ op,.slice E m c',.slice B' m1 A9,.slice C m2 c2] 212;have GV:=q_ (HG.o.below Aa);have Ai:=q_ Aa;have Ao:=q_ B0;have A5:¬ownX A1 n1 c1 wr:=fun hx=>by have:=HG.o.own.olt _ hx;omega
  have KC:=h_ (∀ (w':World) (q:Nat) (A2:OA) (n2 A6:Nat),Gr V base K A1 n1 c1 q A2 n2 A6 w'->(w'.cell? (f_ wr 1)=some (.string s)/\w'.cell? (f_ wr 6)=some (.slice B' m1 A9)/\w'.cell? (f_ wr 7)=some (.slice C m2 c2))) (fun w' q A2 n2 A6 Ab =>
   ⟨(Ab.cell o_ A5).trans (B0.2.1 1 _ rfl),(Ab.cell o_ A5).trans (B0.2.1 6 _ rfl),(Ab.cell o_ A5).trans (B0.2.1 7 _ rfl)⟩)
  have Ad:=q_ A0;have x0:=B0.2.1 0 _ rfl;clear B0 Aa Ag Af A0;go_upto_region 4 with fail;rw [<-hV];clear hV k0 k1 k2 k3 k4 k5 k6 k7;go_wp2_with fail;refine (Names_any kd V).mono ?_;rintro e W1 ⟨⟨b,rfl⟩,hB⟩;have H1:=q_ hB;have G1:=h_ (Gr V base K A1 n1 c1 0 A1 n1 c1 W1) ((Gr.refl GV.o.own 0).below hB);have Al:base<=W1:=Nat.le_trans hb (Nat.le_trans An (Nat.le_trans Ai.o.size hB.size));clear x0 hB;obtain ⟨x1,x6,x7⟩:=KC.o W1 _ _ _ _ G1.o;go_upto_if 15 with fail;go_cut [0] (fun v wx=>∃ (A2:OA) (n2 A6:Nat),v=.slice A2 n2 A6/\Hid (Gr V base K A1 n1 c1 1 A2 n2 A6 wx))
  case first =>
   cases b
   case false =>
    go_wp2;go_meet;exact ⟨_,_,_,rfl,q_ (G1.o.more o_)⟩
   go_wp2_with fail;refine (add_t W1 base K A1 n1 c1 s G1.o.own o_ hK Al).mono ?_;rintro e W2 ⟨A2,n2,A6,rfl,Aj⟩;go_wp2;go_meet;exact ⟨A2,n2,A6,rfl,q_ ((G1.o.trans Aj.o).more o_)⟩
  rename World=>W2
  obtain ⟨A2,n2,A6,rfl,G2⟩:=hcut;clear x1 x6 x7;obtain ⟨x1,x6,x7⟩:=KC.o W2 _ _ _ _ G2.o;have As:n2<=n1+1:=G2.o.hi;have Ak:(V:Nat)<=W2:=G2.o.kp.size;have Ah:=q_ (GV.o.trans G2.o);go_upto_region 6 with fail;go_region_held3 (fun w'=>w'.cell? (f_ wr 6)=some (.slice B' m1 A9)/\w'.cell? (f_ wr 7)=some (.slice C m2 c2))
   (first | exact ⟨x6,x7⟩ | exact ⟨y6,y7⟩ | exact ⟨z6,z7⟩)
   (first
    | (go_at_call_of 164 (Value.slice A2 n2 A6);refine (Ad.o A2 n2 A6 _ W2.drew W2.drew (Ah.o.below (Below.drew (b_))) rfl o_).1.mono ?_;rintro e W3 ⟨A3,n3,c3,rfl,G3⟩;have A7:=h_ (Gr V base K A1 n1 c1 (1+cst) A3 n3 c3 W3) ((G2.o.below (Below.drew (b_))).trans G3.o);obtain ⟨y1,y6,y7⟩:=KC.o W3 _ _ _ _ A7.out;have Au:n3<=n2+cst:=G3.o.hi)
    | (go_at_call_of 164 (Value.slice A3 n3 c3);refine (Ad.o A3 n3 c3 _ W3 W3 (GV.o.trans A7.out) rfl o_).2.mono ?_;rintro e W4 ⟨A4,n4,c4,rfl,G4⟩;have A8:=h_ (Gr V base K A1 n1 c1 (1+cst+cst) A4 n4 c4 W4) (A7.out.trans G4.o);obtain ⟨z1,z6,z7⟩:=KC.o W4 _ _ _ _ A8.out))
  all_goals
   go_wp2_with fail;go_roundw
   case rel=>exact ⟨k+1,A4,n4,c4,o_,rfl,zc_,by have:=A8.out.hi;omega,q_ ((GV.o.trans A8.out).more o_)⟩
   case measure=>exact me_
 have Ac:¬(k:Int)<(nb:Int):=by omega
 obtain rfl:k=nb:=by omega
 go_wp2;go_ret;exact ⟨_,_,_,rfl,HG⟩
theorem walk_t (base K:Nat) (hK:K<=900000000):∀ (d:Nat) (B:OA) (nb cb:Nat) (A:OA) (n c:Nat) (w:World),SlP w (ownX A n c) 20 pS (ag_ d) B nb cb->OwT w base 9 [.txt] nX K A n c->n+cw d<=K->base<=w →
  Calls prog 164 #[.slice A n c,.slice B nb cb] w fun e w'=>RGr w base K A n c (cw d) e w'
 | 0,B,nb,cb,A,n,c,w,hp,ho,hn,hb=>by
  have A1:=hp.sl.le;have h0:∀ (B:OA) (cb:Nat) (A:OA) (n c:Nat) (w:World),OwT w base 9 [.txt] nX K A n c->n<=K->base<=w->Calls prog 164 #[.slice A n c,.slice B 0 cb] w fun e w'=>RGr w base K A n c 0 e w':=fun B cb A n c w ho hn hb=>by
   have:=walk_step base K 0 hK B 0 cb A n c w o_ ho o_ hb (fun k hk=>o_)
   simpa using this
  refine (walk_step base K 0 hK B nb cb A n c w A1 ho (by unfold cw at hn;omega) hb (fun k hk=>?_)).mono (fun e w' h=>?_)
  ·obtain ⟨kd,s,f,nn,op,E,B',C,m,c',m1,c1,m2,c2,g,o,h1,h2,h3,h4,_,_,_,h5,_⟩:=hp.st hk;obtain ⟨rfl,rfl⟩:=h5 rfl;exact ⟨kd,s,f,nn,op,E,B',C,m,c',0,c1,0,c2,g,o,h1,h4,fun A' n' c' q w' w2 hG e A2=>by
    subst e
    have A0:base<=w':=Nat.le_trans hb hG.kp.size
    exact ⟨h0 _ _ _ _ _ _ hG.own o_ A0,h0 _ _ _ _ _ _ hG.own o_ A0⟩⟩
  obtain ⟨A',n',c',rfl,hG⟩:=h;exact ⟨A',n',c',rfl,q_ (hG.o.more (by unfold cw;omega))⟩
 | d+1,B,nb,cb,A,n,c,w,hp,ho,hn,hb=>by
  have A1:=hp.sl.le;have A3:nb*(1+2*cw d)<=20*(1+2*cw d):=Nat.mul_le_mul_right _ A1;have A4:cw (d+1)=20*(1+2*cw d):=rfl;refine (walk_step base K (cw d) hK B nb cb A n c w A1 ho o_ hb (fun k hk=>?_)).mono (fun e w' h=>?_)
  ·obtain ⟨kd,s,f,nn,op,E,B',C,m,c',m1,c1,m2,c2,g,o,h1,h2,h3,h4,_,_,_,_,h5⟩:=hp.st hk;obtain ⟨p1,p2⟩:=h5 d rfl;exact ⟨kd,s,f,nn,op,E,B',C,m,c',m1,c1,m2,c2,g,o,h1,h4,fun A' n' c' q w' w2 hG e A2=>by
    subst e
    have A0:base<=w':=Nat.le_trans hb hG.kp.size
    exact ⟨walk_t base K hK d _ _ _ _ _ _ _ (hG.stay p1) hG.own A2 A0,walk_t base K hK d _ _ _ _ _ _ _ (hG.stay p2) hG.own A2 A0⟩⟩
  obtain ⟨A',n',c',rfl,hG⟩:=h;exact ⟨A',n',c',rfl,q_ (hG.o.more o_)⟩
end Go.Proofs.YtfolidlmgfhkiaaGreat
