/- Lemmas: each says what a function of the program leaves, under the conditions that it states. -/
import Derived.Test.YtfolidlmgfhkiaaGreatZ10
set_option linter.unusedVariables false
set_option linter.unusedSimpArgs false
set_option maxRecDepth 100000
set_option maxHeartbeats 4000000
namespace Go.Proofs.YtfolidlmgfhkiaaGreat
open Go.RowKit Go.Proofs.Tryz
theorem expr_ok0:ExprOK 0:=mex_step 0 d_ (fun j h=>absurd h o_)
theorem expr_ok1:ExprOK 1:=mex_step 1 d_ (fun j h=>by injection h with h;subst h;exact expr_ok0)
theorem expr_ok2:ExprOK 2:=mex_step 2 d_ (fun j h=>by injection h with h;subst h;exact expr_ok1)
theorem cm_:∀ k,k<=2->ExprOK k
 | 0,_=>expr_ok0
 | 1,_=>expr_ok1
 | 2,_=>expr_ok2
def PtrOK:Prop:=∀ (d b lp:Nat) (X:NP) (w:World),Mk d b lp w->(∀ q,Zm d b q->X q)->(∀ q,X q->q<w)->Calls prog 205 #[.pointer (some (a_ b))] w fun e w'=>RE X 2 e w'/\Md d b lp w w'
theorem pointer_ok:PtrOK:=by
 intro d b lp X w hM hz Ac;obtain ⟨W,hW,A9,Ag,B0⟩:=af_ w [i_ 0,i_ 0,.string ⟨#[]⟩,i_ 0,.slice none 0 0] 209;have A3:=hM.below A9;have Aa:b<w:=hM.lt;obtain ⟨X1,A4⟩:∃ X1:NP,X1=fun q=>X q∨q=w:=⟨_,rfl⟩
 obtain ⟨Z1,A5⟩:∃ Z1:NP,Z1=fun q=>Zm d b q∨q=w:=⟨_,rfl⟩
 have A2:=h_ (X1 w/\Z1 w) (⟨by rw [A4];exact .inr rfl,by rw [A5];exact .inr rfl⟩);have Ab:InvR d b lp X1 Z1 w w (ay_ (2)) pE W:=⟨A3,.of_below A9,fun q hq=>by rw [A4] at hq;rcases hq with hq | hq;(have:=Ac q hq;omega);omega,_,B0,vts_ex (SlP.nil _ _ _ _ _),pE_ex x_ x_ d_⟩;have hC:IC d b lp (x1 X1) (InvR d b lp X1 Z1 w w (ay_ (2)) pE):=InvR.ic (fun _ _ _ h=>h) (fun q hq=>by rw [A4];exact .inl (hz q hq)) (fun q hq=>by rw [A5];exact .inl hq) hM.nz;have HC:=q_ hC;have A6:=h_ (∀ w',Mk d b lp w'->Kp (Zm d b) W w'->InvR d b lp X1 Z1 w w (ay_ (2)) pE w') (fun w' h1 h2=>hC.up W w' Ab h1 h2);have A0:=h_ (∀ (a:Act) (w2:World),InvR d b lp X1 Z1 w w (ay_ (2)) pE w2->a.defers=[]->a.tmps.getD 2 undef=.pointer (some (a_ w))->bodyPost prog f205 (fun e w'=>RE X (2) e w'/\Md d b lp w w') .ret a w2) (fun a w2 hI A1 ha=>by
  obtain ⟨cs,g1,g2,g3⟩:=hI.bx
  obtain ⟨kd,n,s,op,A,m,c,rfl,_⟩:=g2.expr
  refine retC results205 ha underlying209 rfl (cs:=exL kd n s op A m c) isz5 g1.whole A1 ⟨⟨_,_,_,_,_,_,_,rfl,q_ ⟨g2.less (fun q _ hq=>by rw [A4];exact .inl hq),g3⟩⟩,hI.ok,hI.kp.mono (fun q hq Ae=>?_)⟩
  rw [A5] at Ae
  rcases Ae with h | h
  ·exact h
  omega)
 have c0:=A3.c0;have Ah:=A3.lt;have HD:=q_ A3.dice;have Af:=q_ A3;clear hM hz Ac B0 A9 Ab hC Ag A4 A5;go_enter func205,ntmps205;go_upto_region 1 with fail;rw [←hW];clear hW;go_upto_region 2 with (go_at_call 26;refine (bo_ d 4 W HD.o d_ d_).mono ?_;rintro e w1 ⟨r,hr,rfl,ht,_⟩);have A8:=q_ (Af.o.thrown ht);have A7:=q_ (ht.kp b);clear c0 Ah ht;by_cases h0:r=0
 ·subst h0;go_upto_region 3 with fail;refine bf_ (X:=(x1 X1)) (Inv:=(InvR d b lp X1 Z1 w w (ay_ (2)) pE)) (ks:=fun i=>([(kV _ (pt b)),(kEx _ 2),(kAny _)]:List (SK (x1 X1))).getD i (kAny _)) k_ (A6.o _ A8.o A7.o) ?_ ?_
  ·intro i o ho a w hI hout hin
   match i,ho with
   | 0,ho=>cases ho;exact M0_
   | 1,ho=>cases ho;exact cg_ (k:=1) HC.o (cm_ 1 d_) rfl H0_ rfl hI
   | 2,ho=>cases ho;exact df_ (fun _ h=>h) Aa A2.o.1 A2.o.2 rfl (hout 2 d_) (show (kEx _ 2).p w _ from H1_) hI
   | q+3,ho=>exact n_ ho
  intro a w2 hI hsz A1 hout Ad;go_wp2;exact A0.o a w2 hI A1 (hout 2 d_)
 have Ai:¬(r:Int)=0:=by omega
 by_cases h1:r=1
 ·subst h1;go_upto_region 5 with fail;refine bf_ (X:=(x1 X1)) (Inv:=(InvR d b lp X1 Z1 w w (ay_ (2)) pE)) (ks:=fun i=>([(kV _ (pt b)),(kV _ (pt b)),(kV _ (pt b)),(kV _ (pt d)),(kNat _ 2),(kEx _ 0),(kExs _ 0 1),(kEx _ 1),(kAny _)]:List (SK (x1 X1))).getD i (kAny _)) k_ (A6.o _ A8.o A7.o) ?_ ?_
  ·intro i o ho a w hI hout hin
   match i,ho with
   | 0,ho=>cases ho;exact M0_
   | 1,ho=>cases ho;exact cc_ rfl H0_ hI
   | 2,ho=>cases ho;exact cb_ d_ rfl H1_ hI
   | 3,ho=>cases ho;exact bk_ HC.o rfl H2_ hI
   | 4,ho=>cases ho;exact bs_ (n:=2) HC.o rfl H3_ rfl d_ d_ hI
   | 5,ho=>cases ho;exact ek_ HC.o rfl ⟨_,rfl,d_⟩ hI
   | 6,ho=>cases ho;exact du_ HC.o rfl (show (kEx _ 0).p w _ from H5_) hI
   | 7,ho=>cases ho;exact rk_be3 rfl (ct_ (show (kNat _ 2).p w _ from H4_)) (show (kExs _ 0 1).p w _ from H6_) hI
   | 8,ho=>cases ho;exact df_ (fun _ h=>h) Aa A2.o.1 A2.o.2 rfl (hout 2 d_) (bi_ (d':=2) d_ (show (kEx _ 1).p w _ from H7_)) hI
   | q+9,ho=>exact n_ ho
  intro a w2 hI hsz A1 hout Ad;go_wp2;exact A0.o a w2 hI A1 (hout 2 d_)
 have Aj:¬(r:Int)=1:=by omega
 go_upto_region 6 with fail;refine bf_ (X:=(x1 X1)) (Inv:=(InvR d b lp X1 Z1 w w (ay_ (2)) pE)) (ks:=fun i=>([(bv_ _ 2),(kV _ (pt b)),(kV _ (pt b)),(kV _ (pt b)),(kV _ (pt d)),(kNat _ 2),(dh_ _),(kStr _),(kEx _ 0),(kAny _)]:List (SK (x1 X1))).getD i (kAny _)) k_ (A6.o _ A8.o A7.o) ?_ ?_
 ·intro i o ho a w hI hout hin
  match i,ho with
  | 0,ho=>cases ho;exact rk_bst2 HC.o rfl d_ d_ hI
  | 1,ho=>cases ho;exact M0_
  | 2,ho=>cases ho;exact cc_ rfl H1_ hI
  | 3,ho=>cases ho;exact cb_ d_ rfl H2_ hI
  | 4,ho=>cases ho;exact bk_ HC.o rfl H3_ hI
  | 5,ho=>cases ho;exact bs_ (n:=2) HC.o rfl H4_ rfl d_ d_ hI
  | 6,ho=>cases ho;exact rk_idx (n:=2) rfl (show (bv_ _ 2).p w _ from H0_) (show (kNat _ 2).p w _ from H5_) hI
  | 7,ho=>cases ho;exact en_ rfl (show (dh_ _).p w _ from H6_) hI
  | 8,ho=>cases ho;exact ek_ HC.o rfl (show (kStr _).p w _ from H7_) hI
  | 9,ho=>cases ho;exact df_ (fun _ h=>h) Aa A2.o.1 A2.o.2 rfl (hout 2 d_) (bi_ (d':=2) d_ (show (kEx _ 0).p w _ from H8_)) hI
  | q+10,ho=>exact n_ ho
 intro a w2 hI hsz A1 hout Ad;go_wp2;exact A0.o a w2 hI A1 (hout 2 d_)
def CallOK:Prop:=∀ (d b lp:Nat) (X:NP) (s:ByteArray) (w:World),s.size<=100->Mk d b lp w->(∀ q,Zm d b q->X q)->(∀ q,X q->q<w)->Calls prog 206 #[.pointer (some (a_ b)),.string s] w fun e w'=>RS X 0 e w'/\Md d b lp w w'
theorem call_ok:CallOK:=by
 intro d b lp X s w hs hM hz Ad;obtain ⟨W,hW,Aa,Ag,B0⟩:=af_ w [i_ 0,.string ⟨#[]⟩,.string ⟨#[]⟩,i_ 0,i_ 0,.slice none 0 0,.slice none 0 0,.slice none 0 0] 212;have A3:=hM.below Aa;have Ab:b<w:=hM.lt;obtain ⟨X1,A4⟩:∃ X1:NP,X1=fun q=>X q∨q=w:=⟨_,rfl⟩
 obtain ⟨Z1,A7⟩:∃ Z1:NP,Z1=fun q=>Zm d b q∨q=w:=⟨_,rfl⟩
 have A2:=h_ (X1 w/\Z1 w) (⟨by rw [A4];exact .inr rfl,by rw [A7];exact .inr rfl⟩);have Ac:InvR d b lp X1 Z1 w w (al_ (0)) pS W:=⟨A3,.of_below Aa,fun q hq=>by rw [A4] at hq;rcases hq with hq | hq;(have:=Ad q hq;omega);omega,_,B0,eb_ (SlP.nil _ _ _ _ _),pS_st x_ x_ x_ d_ d_⟩;have hC:IC d b lp (x1 X1) (InvR d b lp X1 Z1 w w (al_ (0)) pS):=InvR.ic (fun _ _ _ h=>h) (fun q hq=>by rw [A4];exact .inl (hz q hq)) (fun q hq=>by rw [A7];exact .inl hq) hM.nz;have HC:=q_ hC;have A8:=h_ (∀ w',Mk d b lp w'->Kp (Zm d b) W w'->InvR d b lp X1 Z1 w w (al_ (0)) pS w') (fun w' h1 h2=>hC.up W w' Ac h1 h2);have A0:=h_ (∀ (a:Act) (w2:World),InvR d b lp X1 Z1 w w (al_ (0)) pS w2->a.defers=[]->a.tmps.getD 4 undef=.pointer (some (a_ w))->bodyPost prog f206 (fun e w'=>RS X (0) e w'/\Md d b lp w w') .ret a w2) (fun a w2 hI A1 ha=>by
  obtain ⟨cs,g1,g2,g3⟩:=hI.bx
  obtain ⟨kd,s,f,n,op,A,B,C,m,c,c1,c2,rfl,_⟩:=g2.stmt0
  refine retC results206 ha underlying212 rfl (cs:=stL kd s f n op A m c B 0 c1 C 0 c2) isz8 g1.whole A1 ⟨⟨_,_,_,_,_,_,_,_,_,_,_,_,_,_,rfl,q_ ⟨g2.less (fun q _ hq=>by rw [A4];exact .inl hq),g3⟩⟩,hI.ok,hI.kp.mono (fun q hq Af=>?_)⟩
  rw [A7] at Af
  rcases Af with h | h
  ·exact h
  omega)
 have c0:=A3.c0;have Ah:=A3.lt;have HD:=q_ A3.dice;have A9:=q_ A3;clear hM hz Ad B0 Aa Ac hC Ag A4 A7;obtain ⟨fn,c3⟩:=A9.o.c3;go_enter func206,ntmps206;go_upto_region 1 with fail;rw [←hW];clear hW;by_cases hf:fn=0
 ·subst hf;go_upto_if 17 with (go_at_call 26;refine (bo_ d 2 W HD.o d_ d_).mono ?_;rintro e w1 ⟨r,hr,rfl,ht,_⟩);have A6:=q_ (A9.o.thrown ht);have A5:=q_ (ht.kp b);clear c0 Ah ht c3;by_cases h0:r=0
  ·subst h0;go_upto_region 2 with fail;refine dn_ (X:=(x1 X1)) (Inv:=(InvR d b lp X1 Z1 w w (al_ (0)) pS)) (ks:=fun i=>([(kStr _),(kV _ (pt b)),(kEx _ 2),(kV _ (pt b)),(kV _ (pt b)),(kV _ (pt b)),(kV _ (pt d)),(kNat _ 4),(kEx _ 0),(kExs _ dE 2),(kSt _ 0),(kAny _)]:List (SK (x1 X1))).getD i (kAny _)) rfl k_ (A8.o _ (A6.o.below (Below.drew (b_))) (A5.o.bc_ (Below.drew (b_)))) ?_ ?_
   ·intro i o ho a w hI hout hin
    match i,ho with
    | 0,ho=>cases ho;exact bm_ (.inl rfl) (show (kStr _).p w _ from ⟨s,hout 1 d_,hs⟩) hI
    | 1,ho=>cases ho;exact M0_
    | 2,ho=>cases ho;exact cg_ (k:=1) HC.o (cm_ 1 d_) rfl H1_ rfl hI
    | 3,ho=>cases ho;exact M0_
    | 4,ho=>cases ho;exact cc_ rfl H3_ hI
    | 5,ho=>cases ho;exact cb_ d_ rfl H4_ hI
    | 6,ho=>cases ho;exact bk_ HC.o rfl H5_ hI
    | 7,ho=>cases ho;exact bs_ (n:=4) HC.o rfl H6_ rfl d_ d_ hI
    | 8,ho=>cases ho;obtain ⟨q,hq⟩:=(ct_ (show (kNat _ 4).p w _ from H7_));exact rk_num HC.o rfl hq hI
    | 9,ho=>cases ho;exact rk_bse2 HC.o rfl (bi_ (d':=dE) d_ (show (kEx _ 2).p w _ from H2_)) (bi_ (d':=dE) d_ (show (kEx _ 0).p w _ from H8_)) hI
    | 10,ho=>cases ho;exact rk_bs_0125 rfl rfl (show (kStr _).p w _ from H0_) rfl d_ (show (kExs _ dE 2).p w _ from H9_) d_ d_ (fun _=>.inl d_) hI
    | 11,ho=>cases ho;exact bj_ (fun _ h=>h) Ab A2.o.1 A2.o.2 rfl (hout 4 d_) (show (kSt _ 0).p w _ from H10_) hI
    | q+12,ho=>exact n_ ho
   intro a w2 hI hsz A1 hout Ae;go_wp2;exact A0.o a w2 hI A1 (hout 4 d_)
  have Ai:¬(r:Int)=0:=by omega
  go_upto_region 3 with fail;refine bf_ (X:=(x1 X1)) (Inv:=(InvR d b lp X1 Z1 w w (al_ (0)) pS)) (ks:=fun i=>([(kStr _),(kV _ (pt b)),(kEx _ 2),(kExs _ dE 1),(kSt _ 0),(kAny _)]:List (SK (x1 X1))).getD i (kAny _)) k_ (A8.o _ A6.o A5.o) ?_ ?_
  ·intro i o ho a w hI hout hin
   match i,ho with
   | 0,ho=>cases ho;exact bm_ (.inl rfl) (show (kStr _).p w _ from ⟨s,hout 1 d_,hs⟩) hI
   | 1,ho=>cases ho;exact M0_
   | 2,ho=>cases ho;exact cg_ (k:=1) HC.o (cm_ 1 d_) rfl H1_ rfl hI
   | 3,ho=>cases ho;exact du_ HC.o rfl (bi_ (d':=dE) d_ (show (kEx _ 2).p w _ from H2_)) hI
   | 4,ho=>cases ho;exact rk_bs_0125 rfl rfl (show (kStr _).p w _ from H0_) rfl d_ (show (kExs _ dE 1).p w _ from H3_) d_ d_ (fun _=>.inr d_) hI
   | 5,ho=>cases ho;exact bj_ (fun _ h=>h) Ab A2.o.1 A2.o.2 rfl (hout 4 d_) (show (kSt _ 0).p w _ from H4_) hI
   | q+6,ho=>exact n_ ho
  intro a w2 hI hsz A1 hout Ae;go_wp2;exact A0.o a w2 hI A1 (hout 4 d_)
 have A6:=A9;have A5:=q_ (Kp.refl (Zm d b) W);go_upto_region 3 with fail;refine bf_ (X:=(x1 X1)) (Inv:=(InvR d b lp X1 Z1 w w (al_ (0)) pS)) (ks:=fun i=>([(kStr _),(kV _ (pt b)),(kEx _ 2),(kExs _ dE 1),(kSt _ 0),(kAny _)]:List (SK (x1 X1))).getD i (kAny _)) k_ (A8.o _ A6.o A5.o) ?_ ?_
 ·intro i o ho a w hI hout hin
  match i,ho with
  | 0,ho=>cases ho;exact bm_ (.inl rfl) (show (kStr _).p w _ from ⟨s,hout 1 d_,hs⟩) hI
  | 1,ho=>cases ho;exact M0_
  | 2,ho=>cases ho;exact cg_ (k:=1) HC.o (cm_ 1 d_) rfl H1_ rfl hI
  | 3,ho=>cases ho;exact du_ HC.o rfl (bi_ (d':=dE) d_ (show (kEx _ 2).p w _ from H2_)) hI
  | 4,ho=>cases ho;exact rk_bs_0125 rfl rfl (show (kStr _).p w _ from H0_) rfl d_ (show (kExs _ dE 1).p w _ from H3_) d_ d_ (fun _=>.inr d_) hI
  | 5,ho=>cases ho;exact bj_ (fun _ h=>h) Ab A2.o.1 A2.o.2 rfl (hout 4 d_) (show (kSt _ 0).p w _ from H4_) hI
  | q+6,ho=>exact n_ ho
 intro a w2 hI hsz A1 hout Ae;go_wp2;exact A0.o a w2 hI A1 (hout 4 d_)
end Go.Proofs.YtfolidlmgfhkiaaGreat
