/- Lemmas: each says what a function of the program leaves, under the conditions that it states. -/
import Derived.Test.YtfolidlmgfhkiaaGreatZ11
set_option linter.unusedVariables false
set_option linter.unusedSimpArgs false
set_option maxRecDepth 100000
set_option maxHeartbeats 8000000
namespace Go.Proofs.YtfolidlmgfhkiaaGreat
open Go.RowKit Go.Proofs.Tryz
section
variable {Q:Exit->Act->World->Prop} {X:XE} {Inv:World->Prop} {o:Oper} {a:Act} {w:World} {d b lp:Nat} {x y:Operand}
theorem rk_pointer (hC:IC d b lp X Inv) (ho:o.op=.call { callee:=.value (.func 205),args:=#[x],argTypes:=#[203] }) (hx:a.eval x=.pointer (some (a_ b))) (hI:Inv w):RnK prog Q X Inv (kEx X 2) o a w:=by
 have hf:a.eval (.func 205)=.func (.func 205) #[] #[]:=rfl;generalize hr:a.eval=r at hx hf;refine ck_ (f:=205) (args:=#[.pointer (some (a_ b))]) (by rw [hr];simp [execOp,ho,hx,hf,go_sem]) ((pointer_ok d b lp X w (hC.ok w hI) hC.zx (hC.lt w hI)).mono ?_);rintro e w' ⟨⟨kd,n,s,op,A,m,c,rfl,h⟩,hb⟩;exact ⟨_,rfl,hb.kp.mono (fun q _ hq=>hC.zx q hq),hC.ex w w' hI hb.kp,hC.up w w' hI hb.ok hb.kp,_,_,_,_,_,_,_,rfl,h.o⟩
theorem rk_callm (hC:IC d b lp X Inv) (ho:o.op=.call { callee:=.value (.func 206),args:=#[x,y],argTypes:=#[203,9] }) (hx:a.eval x=.pointer (some (a_ b))) (hy:(kStr X).p w (a.eval y)) (hI:Inv w):RnK prog Q X Inv (kSt X 0) o a w:=by
 obtain ⟨s,hy,hs⟩:=hy;have hf:a.eval (.func 206)=.func (.func 206) #[] #[]:=rfl;generalize hr:a.eval=r at hx hy hf;refine ck_ (f:=206) (args:=#[.pointer (some (a_ b)),.string s]) (by rw [hr];simp [execOp,ho,hx,hy,hf,go_sem]) ((call_ok d b lp X s w hs (hC.ok w hI) hC.zx (hC.lt w hI)).mono ?_);rintro e w' ⟨⟨kd,s,f,n,op,A,m,c,B,m1,c1,C,m2,c2,rfl,h⟩,hb⟩;exact ⟨_,rfl,hb.kp.mono (fun q _ hq=>hC.zx q hq),hC.ex w w' hI hb.kp,hC.up w w' hI hb.ok hb.kp,_,_,_,_,_,_,_,_,_,_,_,_,_,_,rfl,h.o⟩
end
def SimpleOK:Prop:=∀ (d b lp:Nat) (X:NP) (w:World),Mk d b lp w->(∀ q,Zm d b q->X q)->(∀ q,X q->q<w)->Calls prog 196 #[.pointer (some (a_ b))] w fun e w'=>RS X 0 e w'/\Md d b lp w w'
theorem simple_ok:SimpleOK:=by
 intro d b lp X w hM hz Ah;obtain ⟨W,hW,Ae,Al,B0⟩:=af_ w [i_ 0,.string ⟨#[]⟩,.string ⟨#[]⟩,i_ 0,i_ 0,.slice none 0 0,.slice none 0 0,.slice none 0 0] 212;have A9:=hM.below Ae;have A7:b<w:=hM.lt;obtain ⟨X1,Aa⟩:∃ X1:NP,X1=fun q=>X q∨q=w:=⟨_,rfl⟩
 obtain ⟨Z1,Ac⟩:∃ Z1:NP,Z1=fun q=>Zm d b q∨q=w:=⟨_,rfl⟩
 have A2:=h_ (X1 w/\Z1 w) (⟨by rw [Aa];exact .inr rfl,by rw [Ac];exact .inr rfl⟩);have Af:InvR d b lp X1 Z1 w w (al_ (0)) pS W:=⟨A9,.of_below Ae,fun q hq=>by rw [Aa] at hq;rcases hq with hq | hq;(have:=Ah q hq;omega);omega,_,B0,eb_ (SlP.nil _ _ _ _ _),pS_st x_ x_ x_ d_ d_⟩;have hC:IC d b lp (x1 X1) (InvR d b lp X1 Z1 w w (al_ (0)) pS):=InvR.ic (fun _ _ _ h=>h) (fun q hq=>by rw [Aa];exact .inl (hz q hq)) (fun q hq=>by rw [Ac];exact .inl hq) hM.nz;have HC:=q_ hC;have A5:=h_ (∀ w',Mk d b lp w'->Kp (Zm d b) W w'->InvR d b lp X1 Z1 w w (al_ (0)) pS w') (fun w' h1 h2=>hC.up W w' Af h1 h2);have A1:=h_ (∀ (a:Act) (w2:World),InvR d b lp X1 Z1 w w (al_ (0)) pS w2->a.defers=[]->a.tmps.getD 2 undef=.pointer (some (a_ w))->bodyPost prog f196 (fun e w'=>RS X (0) e w'/\Md d b lp w w') .ret a w2) (fun a w2 hI A0 ha=>by
  obtain ⟨cs,g1,g2,g3⟩:=hI.bx
  obtain ⟨kd,s,f,n,op,A,B,C,m,c,c1,c2,rfl,_⟩:=g2.stmt0
  refine retC results196 ha underlying212 rfl (cs:=stL kd s f n op A m c B 0 c1 C 0 c2) isz8 g1.whole A0 ⟨⟨_,_,_,_,_,_,_,_,_,_,_,_,_,_,rfl,q_ ⟨g2.less (fun q _ hq=>by rw [Aa];exact .inl hq),g3⟩⟩,hI.ok,hI.kp.mono (fun q hq Ai=>?_)⟩
  rw [Ac] at Ai
  rcases Ai with h | h
  ·exact h
  omega)
 have c0:=A9.c0;have Ad:=A9.lt;have HD:=q_ A9.dice;have Ak:=q_ A9;clear hM hz Ah B0 Ae Af hC Al Aa Ac;go_enter func196,ntmps196;go_upto_region 1 with fail;rw [←hW];clear hW;go_cut [3] (fun v wx=>∃ s:ByteArray,v=.string s/\s.size<=100/\Hid (Mk d b lp wx)/\Hid (Kp (Zm d b) W wx))
 case first =>
  refine dn_ (X:=⟨Zm d b,fun _=>True⟩) (Inv:=fun w2=>Mk d b lp w2/\Kp (Zm d b) W w2) (ks:=fun i=>([(bv_ _ 5),(kV _ (pt b)),(kV _ (pt b)),(kV _ (pt b)),(kV _ (pt d)),(bv_ _ 5),(kV _ (i_ (5:Nat))),(kNat _ 5),(dh_ _),(kStr _),(kStr _)]:List (SK (x1 (Zm d b)))).getD i (kAny _)) rfl k_ ⟨Ak.o.below (Below.drew (b_)),Kp.of_below (Below.drew (b_))⟩ ?_ ?_
  ·have HC:=h_ (IC d b lp ⟨Zm d b,fun _=>True⟩ (fun w2=>Mk d b lp w2/\Kp (Zm d b) W w2)) (⟨fun _ h=>h.1,fun _ h=>h,fun _ h=>h.1.zlt,fun _ _ h h1 h2=>⟨h1,h.2.trans h2⟩,fun _ _ _ _ h=>h⟩);intro i o ho a w hI hout hin
   match i,ho with
   | 0,ho=>cases ho;exact rk_names HC.o rfl hI
   | 1,ho=>cases ho;exact M0_
   | 2,ho=>cases ho;exact cc_ rfl H1_ hI
   | 3,ho=>cases ho;exact cb_ d_ rfl H2_ hI
   | 4,ho=>cases ho;exact bk_ HC.o rfl H3_ hI
   | 5,ho=>cases ho;exact rk_names HC.o rfl hI
   | 6,ho=>cases ho;exact rk_len rfl (show (bv_ _ 5).p w _ from H5_) hI
   | 7,ho=>cases ho;exact bs_ (n:=5) HC.o rfl H4_ H6_ d_ d_ hI
   | 8,ho=>cases ho;exact rk_idx (n:=5) rfl (show (bv_ _ 5).p w _ from H0_) (show (kNat _ 5).p w _ from H7_) hI
   | 9,ho=>cases ho;exact en_ rfl (show (dh_ _).p w _ from H8_) hI
   | 10,ho=>cases ho;exact bm_ (.inr rfl) (show (kStr _).p w _ from H9_) hI
   | q+11,ho=>exact n_ ho
  intro a w2 hI hsz A0 hout A4;obtain ⟨gs,Ag⟩:∃ gs:Nat->Value,∀ t,a.tmps.getD t undef=gs t:=⟨_,fun _=>rfl⟩;obtain ⟨s,hs,hz⟩:(kStr ⟨Zm d b,fun _=>True⟩).p w2 (gs 3):=by rw [←Ag];exact A4 10 _ _ rfl rfl
  have ha:=do_ (D:=[4,5,6,7,8,9,10,11,12,13,3]) hsz A0 t_ hout Ag;simp only [List.foldl_cons,List.foldl_nil,Act.put,List.setIfInBounds_toArray,List.set_cons_zero,List.set_cons_succ] at ha;subst ha;go_wp2;go_meet;first | exact ⟨s,rfl,hz,q_ hI.1,q_ hI.2⟩ | exact ⟨s,hs,hz,q_ hI.1,q_ hI.2⟩
 case rest =>
 rename World=>w0
 obtain ⟨s,rfl,hs,A8,Aj⟩:=hcut;clear c0 Ad;have c0:=A8.o.c0;have Ad:=A8.o.lt;obtain ⟨fn,c3⟩:=A8.o.c3;go_upto_region 3 with (go_at_call 26;refine (bo_ d 13 w0 A8.o.dice d_ d_).mono ?_;rintro e w1 ⟨r,hr,rfl,ht,_⟩);have A3:=q_ (A8.o.thrown ht);have A6:=q_ (Aj.o.trans (ht.kp b));clear c0 Ad ht c3;obtain ⟨fn,c3⟩:=A3.o.c3;have Ad:=A3.o.lt;have Ab:r=0∨r=1∨r=2∨r=3∨r=4∨r=5∨r=6∨r=7∨r=8∨r=9∨(r=10/\fn<2)∨(r=10/\¬fn<2)∨r=11∨r=12:=by omega
 rcases Ab with rfl | rfl | rfl | rfl | rfl | rfl | rfl | rfl | rfl | rfl | ⟨rfl,hfn⟩ | ⟨rfl,hfn⟩ | rfl | rfl
 ·go_upto_region 5 with fail;refine bf_ (X:=(x1 X1)) (Inv:=(InvR d b lp X1 Z1 w w (al_ (0)) pS)) (ks:=fun i=>([(kStr _),(kV _ (pt b)),(kEx _ 3),(kSt _ 0),(kAny _)]:List (SK (x1 X1))).getD i (kAny _)) k_ (A5.o _ A3.o A6.o) ?_ ?_
  ·intro i o ho a w hI hout hin
   match i,ho with
   | 0,ho=>cases ho;exact bm_ (.inl rfl) (show (kStr _).p w _ from ⟨s,hout 3 d_,hs⟩) hI
   | 1,ho=>cases ho;exact M0_
   | 2,ho=>cases ho;exact cg_ (k:=2) HC.o (cm_ 2 d_) rfl H1_ rfl hI
   | 3,ho=>cases ho;exact di_ HC.o rfl (show (kStr _).p w _ from H0_) (bi_ (d':=dE) d_ (show (kEx _ 3).p w _ from H2_)) hI
   | 4,ho=>cases ho;exact bj_ (fun _ h=>h) A7 A2.o.1 A2.o.2 rfl (hout 2 d_) (show (kSt _ 0).p w _ from H3_) hI
   | q+5,ho=>exact n_ ho
  intro a w2 hI hsz A0 hout A4;go_wp2;exact A1.o a w2 hI A0 (hout 2 d_)
 ·go_upto_region 5 with fail;refine bf_ (X:=(x1 X1)) (Inv:=(InvR d b lp X1 Z1 w w (al_ (0)) pS)) (ks:=fun i=>([(kStr _),(kV _ (pt b)),(kEx _ 3),(kSt _ 0),(kAny _)]:List (SK (x1 X1))).getD i (kAny _)) k_ (A5.o _ A3.o A6.o) ?_ ?_
  ·intro i o ho a w hI hout hin
   match i,ho with
   | 0,ho=>cases ho;exact bm_ (.inl rfl) (show (kStr _).p w _ from ⟨s,hout 3 d_,hs⟩) hI
   | 1,ho=>cases ho;exact M0_
   | 2,ho=>cases ho;exact cg_ (k:=2) HC.o (cm_ 2 d_) rfl H1_ rfl hI
   | 3,ho=>cases ho;exact di_ HC.o rfl (show (kStr _).p w _ from H0_) (bi_ (d':=dE) d_ (show (kEx _ 3).p w _ from H2_)) hI
   | 4,ho=>cases ho;exact bj_ (fun _ h=>h) A7 A2.o.1 A2.o.2 rfl (hout 2 d_) (show (kSt _ 0).p w _ from H3_) hI
   | q+5,ho=>exact n_ ho
  intro a w2 hI hsz A0 hout A4;go_wp2;exact A1.o a w2 hI A0 (hout 2 d_)
 ·go_upto_region 7 with fail;refine dn_ (X:=(x1 X1)) (Inv:=(InvR d b lp X1 Z1 w w (al_ (0)) pS)) (ks:=fun i=>([(bv_ _ 2),(kV _ (pt b)),(kV _ (pt b)),(kV _ (pt b)),(kV _ (pt d)),(kNat _ 2),(dh_ _),(kStr _),(kV _ (pt b)),(kV _ (pt b)),(kV _ (pt b)),(kV _ (pt d)),(kNat _ 2),(kInt _),(kEx _ 0),(kSt _ 0),(kAny _)]:List (SK (x1 X1))).getD i (kAny _)) rfl k_ (A5.o _ (A3.o.below (Below.drew (b_))) (A6.o.bc_ (Below.drew (b_)))) ?_ ?_
  ·intro i o ho a w hI hout hin
   match i,ho with
   | 0,ho=>cases ho;exact rk_bst2 HC.o rfl d_ d_ hI
   | 1,ho=>cases ho;exact M0_
   | 2,ho=>cases ho;exact cc_ rfl H1_ hI
   | 3,ho=>cases ho;exact cb_ d_ rfl H2_ hI
   | 4,ho=>cases ho;exact bk_ HC.o rfl H3_ hI
   | 5,ho=>cases ho;exact bs_ (n:=2) HC.o rfl H4_ rfl d_ d_ hI
   | 6,ho=>cases ho;exact rk_idx (n:=2) rfl (show (bv_ _ 2).p w _ from H0_) (show (kNat _ 2).p w _ from H5_) hI
   | 7,ho=>cases ho;exact en_ rfl (show (dh_ _).p w _ from H6_) hI
   | 8,ho=>cases ho;exact M0_
   | 9,ho=>cases ho;exact cc_ rfl H8_ hI
   | 10,ho=>cases ho;exact cb_ d_ rfl H9_ hI
   | 11,ho=>cases ho;exact bk_ HC.o rfl H10_ hI
   | 12,ho=>cases ho;exact bs_ (n:=2) HC.o rfl H11_ rfl d_ d_ hI
   | 13,ho=>cases ho;exact rk_add (.inl rfl) rfl ⟨_,rfl⟩ (ct_ (show (kNat _ 2).p w _ from H12_)) hI
   | 14,ho=>cases ho;exact rk_be1 rfl d_ (show (kInt _).p w _ from H13_) hI
   | 15,ho=>cases ho;exact di_ HC.o rfl (show (kStr _).p w _ from H7_) (bi_ (d':=dE) d_ (show (kEx _ 0).p w _ from H14_)) hI
   | 16,ho=>cases ho;exact bj_ (fun _ h=>h) A7 A2.o.1 A2.o.2 rfl (hout 2 d_) (show (kSt _ 0).p w _ from H15_) hI
   | q+17,ho=>exact n_ ho
  intro a w2 hI hsz A0 hout A4;go_wp2;exact A1.o a w2 hI A0 (hout 2 d_)
 ·go_upto_region 10 with fail;refine bf_ (X:=(x1 X1)) (Inv:=(InvR d b lp X1 Z1 w w (al_ (0)) pS)) (ks:=fun i=>([(kV _ (pt b)),(kV _ (pt b)),(kV _ (pt b)),(kV _ (pt d)),(kNat _ 3),(kV _ (pt b)),(kEx _ 2),(kV _ (pt b)),(kEx _ 2),(kExs _ dE 2),(kSt _ 0),(kAny _)]:List (SK (x1 X1))).getD i (kAny _)) k_ (A5.o _ A3.o A6.o) ?_ ?_
  ·intro i o ho a w hI hout hin
   match i,ho with
   | 0,ho=>cases ho;exact M0_
   | 1,ho=>cases ho;exact cc_ rfl H0_ hI
   | 2,ho=>cases ho;exact cb_ d_ rfl H1_ hI
   | 3,ho=>cases ho;exact bk_ HC.o rfl H2_ hI
   | 4,ho=>cases ho;exact bs_ (n:=3) HC.o rfl H3_ rfl d_ d_ hI
   | 5,ho=>cases ho;exact M0_
   | 6,ho=>cases ho;exact rk_pointer HC.o rfl H5_ hI
   | 7,ho=>cases ho;exact M0_
   | 8,ho=>cases ho;exact cg_ (k:=1) HC.o (cm_ 1 d_) rfl H7_ rfl hI
   | 9,ho=>cases ho;exact rk_bse2 HC.o rfl (bi_ (d':=dE) d_ (show (kEx _ 2).p w _ from H6_)) (bi_ (d':=dE) d_ (show (kEx _ 2).p w _ from H8_)) hI
   | 10,ho=>cases ho;exact rk_bs_035 rfl rfl (ct_ (show (kNat _ 3).p w _ from H4_)) (show (kExs _ dE 2).p w _ from H9_) d_ d_ (fun h=>absurd h d_) hI
   | 11,ho=>cases ho;exact bj_ (fun _ h=>h) A7 A2.o.1 A2.o.2 rfl (hout 2 d_) (show (kSt _ 0).p w _ from H10_) hI
   | q+12,ho=>exact n_ ho
  intro a w2 hI hsz A0 hout A4;go_wp2;exact A1.o a w2 hI A0 (hout 2 d_)
 ·go_upto_region 10 with fail;refine bf_ (X:=(x1 X1)) (Inv:=(InvR d b lp X1 Z1 w w (al_ (0)) pS)) (ks:=fun i=>([(kV _ (pt b)),(kV _ (pt b)),(kV _ (pt b)),(kV _ (pt d)),(kNat _ 3),(kV _ (pt b)),(kEx _ 2),(kV _ (pt b)),(kEx _ 2),(kExs _ dE 2),(kSt _ 0),(kAny _)]:List (SK (x1 X1))).getD i (kAny _)) k_ (A5.o _ A3.o A6.o) ?_ ?_
  ·intro i o ho a w hI hout hin
   match i,ho with
   | 0,ho=>cases ho;exact M0_
   | 1,ho=>cases ho;exact cc_ rfl H0_ hI
   | 2,ho=>cases ho;exact cb_ d_ rfl H1_ hI
   | 3,ho=>cases ho;exact bk_ HC.o rfl H2_ hI
   | 4,ho=>cases ho;exact bs_ (n:=3) HC.o rfl H3_ rfl d_ d_ hI
   | 5,ho=>cases ho;exact M0_
   | 6,ho=>cases ho;exact rk_pointer HC.o rfl H5_ hI
   | 7,ho=>cases ho;exact M0_
   | 8,ho=>cases ho;exact cg_ (k:=1) HC.o (cm_ 1 d_) rfl H7_ rfl hI
   | 9,ho=>cases ho;exact rk_bse2 HC.o rfl (bi_ (d':=dE) d_ (show (kEx _ 2).p w _ from H6_)) (bi_ (d':=dE) d_ (show (kEx _ 2).p w _ from H8_)) hI
   | 10,ho=>cases ho;exact rk_bs_035 rfl rfl (ct_ (show (kNat _ 3).p w _ from H4_)) (show (kExs _ dE 2).p w _ from H9_) d_ d_ (fun h=>absurd h d_) hI
   | 11,ho=>cases ho;exact bj_ (fun _ h=>h) A7 A2.o.1 A2.o.2 rfl (hout 2 d_) (show (kSt _ 0).p w _ from H10_) hI
   | q+12,ho=>exact n_ ho
  intro a w2 hI hsz A0 hout A4;go_wp2;exact A1.o a w2 hI A0 (hout 2 d_)
 ·go_upto_region 13 with fail;refine dn_ (X:=(x1 X1)) (Inv:=(InvR d b lp X1 Z1 w w (al_ (0)) pS)) (ks:=fun i=>([(bv_ _ 2),(kV _ (pt b)),(kV _ (pt b)),(kV _ (pt b)),(kV _ (pt d)),(kNat _ 2),(dh_ _),(kStr _),(kInts' _ 4),(kV _ (pt b)),(kV _ (pt b)),(kV _ (pt b)),(kV _ (pt d)),(kNat _ 4),(kPInt' _),(kInt _),(kV _ (pt b)),(kEx _ 2),(kExs _ dE 1),(kSt _ 0),(kAny _)]:List (SK (x1 X1))).getD i (kAny _)) rfl k_ (A5.o _ (A3.o.below (Below.drew (b_))) (A6.o.bc_ (Below.drew (b_)))) ?_ ?_
  ·intro i o ho a w hI hout hin
   match i,ho with
   | 0,ho=>cases ho;exact rk_bst2 HC.o rfl d_ d_ hI
   | 1,ho=>cases ho;exact M0_
   | 2,ho=>cases ho;exact cc_ rfl H1_ hI
   | 3,ho=>cases ho;exact cb_ d_ rfl H2_ hI
   | 4,ho=>cases ho;exact bk_ HC.o rfl H3_ hI
   | 5,ho=>cases ho;exact bs_ (n:=2) HC.o rfl H4_ rfl d_ d_ hI
   | 6,ho=>cases ho;exact rk_idx (n:=2) rfl (show (bv_ _ 2).p w _ from H0_) (show (kNat _ 2).p w _ from H5_) hI
   | 7,ho=>cases ho;exact en_ rfl (show (dh_ _).p w _ from H6_) hI
   | 8,ho=>cases ho;exact rk_bsi4' HC.o rfl hI
   | 9,ho=>cases ho;exact M0_
   | 10,ho=>cases ho;exact cc_ rfl H9_ hI
   | 11,ho=>cases ho;exact cb_ d_ rfl H10_ hI
   | 12,ho=>cases ho;exact bk_ HC.o rfl H11_ hI
   | 13,ho=>cases ho;exact bs_ (n:=4) HC.o rfl H12_ rfl d_ d_ hI
   | 14,ho=>cases ho;exact rk_idxi' (n:=4) rfl (show (kInts' _ 4).p w _ from H8_) (show (kNat _ 4).p w _ from H13_) hI
   | 15,ho=>cases ho;exact rk_lint' rfl (show (kPInt' _).p w _ from H14_) hI
   | 16,ho=>cases ho;exact M0_
   | 17,ho=>cases ho;exact cg_ (k:=1) HC.o (cm_ 1 d_) rfl H16_ rfl hI
   | 18,ho=>cases ho;exact du_ HC.o rfl (bi_ (d':=dE) d_ (show (kEx _ 2).p w _ from H17_)) hI
   | 19,ho=>cases ho;exact rk_bs_0145 rfl rfl (show (kStr _).p w _ from H7_) (show (kInt _).p w _ from H15_) (show (kExs _ dE 1).p w _ from H18_) d_ d_ (fun h=>absurd h d_) hI
   | 20,ho=>cases ho;exact bj_ (fun _ h=>h) A7 A2.o.1 A2.o.2 rfl (hout 2 d_) (show (kSt _ 0).p w _ from H19_) hI
   | q+21,ho=>exact n_ ho
  intro a w2 hI hsz A0 hout A4;go_wp2;exact A1.o a w2 hI A0 (hout 2 d_)
 ·go_upto_region 13 with fail;refine dn_ (X:=(x1 X1)) (Inv:=(InvR d b lp X1 Z1 w w (al_ (0)) pS)) (ks:=fun i=>([(bv_ _ 2),(kV _ (pt b)),(kV _ (pt b)),(kV _ (pt b)),(kV _ (pt d)),(kNat _ 2),(dh_ _),(kStr _),(kInts' _ 4),(kV _ (pt b)),(kV _ (pt b)),(kV _ (pt b)),(kV _ (pt d)),(kNat _ 4),(kPInt' _),(kInt _),(kV _ (pt b)),(kEx _ 2),(kExs _ dE 1),(kSt _ 0),(kAny _)]:List (SK (x1 X1))).getD i (kAny _)) rfl k_ (A5.o _ (A3.o.below (Below.drew (b_))) (A6.o.bc_ (Below.drew (b_)))) ?_ ?_
  ·intro i o ho a w hI hout hin
   match i,ho with
   | 0,ho=>cases ho;exact rk_bst2 HC.o rfl d_ d_ hI
   | 1,ho=>cases ho;exact M0_
   | 2,ho=>cases ho;exact cc_ rfl H1_ hI
   | 3,ho=>cases ho;exact cb_ d_ rfl H2_ hI
   | 4,ho=>cases ho;exact bk_ HC.o rfl H3_ hI
   | 5,ho=>cases ho;exact bs_ (n:=2) HC.o rfl H4_ rfl d_ d_ hI
   | 6,ho=>cases ho;exact rk_idx (n:=2) rfl (show (bv_ _ 2).p w _ from H0_) (show (kNat _ 2).p w _ from H5_) hI
   | 7,ho=>cases ho;exact en_ rfl (show (dh_ _).p w _ from H6_) hI
   | 8,ho=>cases ho;exact rk_bsi4' HC.o rfl hI
   | 9,ho=>cases ho;exact M0_
   | 10,ho=>cases ho;exact cc_ rfl H9_ hI
   | 11,ho=>cases ho;exact cb_ d_ rfl H10_ hI
   | 12,ho=>cases ho;exact bk_ HC.o rfl H11_ hI
   | 13,ho=>cases ho;exact bs_ (n:=4) HC.o rfl H12_ rfl d_ d_ hI
   | 14,ho=>cases ho;exact rk_idxi' (n:=4) rfl (show (kInts' _ 4).p w _ from H8_) (show (kNat _ 4).p w _ from H13_) hI
   | 15,ho=>cases ho;exact rk_lint' rfl (show (kPInt' _).p w _ from H14_) hI
   | 16,ho=>cases ho;exact M0_
   | 17,ho=>cases ho;exact cg_ (k:=1) HC.o (cm_ 1 d_) rfl H16_ rfl hI
   | 18,ho=>cases ho;exact du_ HC.o rfl (bi_ (d':=dE) d_ (show (kEx _ 2).p w _ from H17_)) hI
   | 19,ho=>cases ho;exact rk_bs_0145 rfl rfl (show (kStr _).p w _ from H7_) (show (kInt _).p w _ from H15_) (show (kExs _ dE 1).p w _ from H18_) d_ d_ (fun h=>absurd h d_) hI
   | 20,ho=>cases ho;exact bj_ (fun _ h=>h) A7 A2.o.1 A2.o.2 rfl (hout 2 d_) (show (kSt _ 0).p w _ from H19_) hI
   | q+21,ho=>exact n_ ho
  intro a w2 hI hsz A0 hout A4;go_wp2;exact A1.o a w2 hI A0 (hout 2 d_)
 ·go_upto_region 15 with fail;refine bf_ (X:=(x1 X1)) (Inv:=(InvR d b lp X1 Z1 w w (al_ (0)) pS)) (ks:=fun i=>([(kV _ (pt b)),(kEx _ 2),(kExs _ dE 1),(kSt _ 0),(kAny _)]:List (SK (x1 X1))).getD i (kAny _)) k_ (A5.o _ A3.o A6.o) ?_ ?_
  ·intro i o ho a w hI hout hin
   match i,ho with
   | 0,ho=>cases ho;exact M0_
   | 1,ho=>cases ho;exact cg_ (k:=1) HC.o (cm_ 1 d_) rfl H0_ rfl hI
   | 2,ho=>cases ho;exact du_ HC.o rfl (bi_ (d':=dE) d_ (show (kEx _ 2).p w _ from H1_)) hI
   | 3,ho=>cases ho;exact rk_bs_05 rfl rfl (show (kExs _ dE 1).p w _ from H2_) d_ d_ (fun h=>absurd h d_) hI
   | 4,ho=>cases ho;exact bj_ (fun _ h=>h) A7 A2.o.1 A2.o.2 rfl (hout 2 d_) (show (kSt _ 0).p w _ from H3_) hI
   | q+5,ho=>exact n_ ho
  intro a w2 hI hsz A0 hout A4;go_wp2;exact A1.o a w2 hI A0 (hout 2 d_)
 ·go_upto_region 17 with fail;refine bf_ (X:=(x1 X1)) (Inv:=(InvR d b lp X1 Z1 w w (al_ (0)) pS)) (ks:=fun i=>([(kStr _),(kV _ (pt b)),(kEx _ 2),(kExs _ dE 1),(kSt _ 0),(kAny _)]:List (SK (x1 X1))).getD i (kAny _)) k_ (A5.o _ A3.o A6.o) ?_ ?_
  ·intro i o ho a w hI hout hin
   match i,ho with
   | 0,ho=>cases ho;exact bm_ (.inl rfl) (show (kStr _).p w _ from ⟨s,hout 3 d_,hs⟩) hI
   | 1,ho=>cases ho;exact M0_
   | 2,ho=>cases ho;exact cg_ (k:=1) HC.o (cm_ 1 d_) rfl H1_ rfl hI
   | 3,ho=>cases ho;exact du_ HC.o rfl (bi_ (d':=dE) d_ (show (kEx _ 2).p w _ from H2_)) hI
   | 4,ho=>cases ho;exact rk_bs_015 rfl rfl (show (kStr _).p w _ from H0_) (show (kExs _ dE 1).p w _ from H3_) d_ d_ (fun h=>absurd h d_) hI
   | 5,ho=>cases ho;exact bj_ (fun _ h=>h) A7 A2.o.1 A2.o.2 rfl (hout 2 d_) (show (kSt _ 0).p w _ from H4_) hI
   | q+6,ho=>exact n_ ho
  intro a w2 hI hsz A0 hout A4;go_wp2;exact A1.o a w2 hI A0 (hout 2 d_)
 ·go_upto_region 19 with fail;refine bf_ (X:=(x1 X1)) (Inv:=(InvR d b lp X1 Z1 w w (al_ (0)) pS)) (ks:=fun i=>([(kEx _ 0),(kV _ (pt b)),(kEx _ 2),(kEx _ 3),(kSt _ 0),(kAny _)]:List (SK (x1 X1))).getD i (kAny _)) k_ (A5.o _ A3.o A6.o) ?_ ?_
  ·intro i o ho a w hI hout hin
   match i,ho with
   | 0,ho=>cases ho;exact ek_ HC.o rfl ⟨_,rfl,d_⟩ hI
   | 1,ho=>cases ho;exact M0_
   | 2,ho=>cases ho;exact cg_ (k:=1) HC.o (cm_ 1 d_) rfl H1_ rfl hI
   | 3,ho=>cases ho;exact rk_bin HC.o rfl ⟨_,rfl⟩ (bi_ (d':=2) d_ (show (kEx _ 0).p w _ from H0_)) (show (kEx _ 2).p w _ from H2_) hI
   | 4,ho=>cases ho;exact di_ HC.o rfl ⟨_,rfl,d_⟩ (bi_ (d':=dE) d_ (show (kEx _ 3).p w _ from H3_)) hI
   | 5,ho=>cases ho;exact bj_ (fun _ h=>h) A7 A2.o.1 A2.o.2 rfl (hout 2 d_) (show (kSt _ 0).p w _ from H4_) hI
   | q+6,ho=>exact n_ ho
  intro a w2 hI hsz A0 hout A4;go_wp2;exact A1.o a w2 hI A0 (hout 2 d_)
 ·go_upto_region 22 with fail;refine bf_ (X:=(x1 X1)) (Inv:=(InvR d b lp X1 Z1 w w (al_ (0)) pS)) (ks:=fun i=>([(kV _ (pt b)),(kStr _),(kSt _ 0),(kAny _)]:List (SK (x1 X1))).getD i (kAny _)) k_ (A5.o _ A3.o A6.o) ?_ ?_
  ·intro i o ho a w hI hout hin
   match i,ho with
   | 0,ho=>cases ho;exact M0_
   | 1,ho=>cases ho;exact bm_ (.inl rfl) (show (kStr _).p w _ from ⟨s,hout 3 d_,hs⟩) hI
   | 2,ho=>cases ho;exact rk_callm HC.o rfl H0_ (show (kStr _).p w _ from H1_) hI
   | 3,ho=>cases ho;exact bj_ (fun _ h=>h) A7 A2.o.1 A2.o.2 rfl (hout 2 d_) (show (kSt _ 0).p w _ from H2_) hI
   | q+4,ho=>exact n_ ho
  intro a w2 hI hsz A0 hout A4;go_wp2;exact A1.o a w2 hI A0 (hout 2 d_)
 ·go_upto_region 25 with fail;refine bf_ (X:=(x1 X1)) (Inv:=(InvR d b lp X1 Z1 w w (al_ (0)) pS)) (ks:=fun i=>([(kStr _),(kV _ (pt b)),(kEx _ 2),(kSt _ 0),(kAny _)]:List (SK (x1 X1))).getD i (kAny _)) k_ (A5.o _ A3.o A6.o) ?_ ?_
  ·intro i o ho a w hI hout hin
   match i,ho with
   | 0,ho=>cases ho;exact bm_ (.inl rfl) (show (kStr _).p w _ from ⟨s,hout 3 d_,hs⟩) hI
   | 1,ho=>cases ho;exact M0_
   | 2,ho=>cases ho;exact rk_pointer HC.o rfl H1_ hI
   | 3,ho=>cases ho;exact di_ HC.o rfl (show (kStr _).p w _ from H0_) (bi_ (d':=dE) d_ (show (kEx _ 2).p w _ from H2_)) hI
   | 4,ho=>cases ho;exact bj_ (fun _ h=>h) A7 A2.o.1 A2.o.2 rfl (hout 2 d_) (show (kSt _ 0).p w _ from H3_) hI
   | q+5,ho=>exact n_ ho
  intro a w2 hI hsz A0 hout A4;go_wp2;exact A1.o a w2 hI A0 (hout 2 d_)
 ·go_upto_region 24 with fail;refine dn_ (X:=(x1 X1)) (Inv:=(InvR d b lp X1 Z1 w w (al_ (0)) pS)) (ks:=fun i=>([(kInts _ 2),(kV _ (pt b)),(kV _ (pt b)),(kV _ (pt b)),(kV _ (pt d)),(kNat _ 2),(kPInt _),(kKind _),(kV _ (pt b)),(kEx _ 2),(kExs _ dE 1),(kSt _ 0),(kAny _)]:List (SK (x1 X1))).getD i (kAny _)) rfl k_ (A5.o _ (A3.o.below (Below.drew (b_))) (A6.o.bc_ (Below.drew (b_)))) ?_ ?_
  ·intro i o ho a w hI hout hin
   match i,ho with
   | 0,ho=>cases ho;exact rk_bsi2 HC.o rfl d_ d_ hI
   | 1,ho=>cases ho;exact M0_
   | 2,ho=>cases ho;exact cc_ rfl H1_ hI
   | 3,ho=>cases ho;exact cb_ d_ rfl H2_ hI
   | 4,ho=>cases ho;exact bk_ HC.o rfl H3_ hI
   | 5,ho=>cases ho;exact bs_ (n:=2) HC.o rfl H4_ rfl d_ d_ hI
   | 6,ho=>cases ho;exact rk_idxi (n:=2) rfl (show (kInts _ 2).p w _ from H0_) (show (kNat _ 2).p w _ from H5_) hI
   | 7,ho=>cases ho;exact rk_lint rfl (show (kPInt _).p w _ from H6_) hI
   | 8,ho=>cases ho;exact M0_
   | 9,ho=>cases ho;exact cg_ (k:=1) HC.o (cm_ 1 d_) rfl H8_ rfl hI
   | 10,ho=>cases ho;exact du_ HC.o rfl (bi_ (d':=dE) d_ (show (kEx _ 2).p w _ from H9_)) hI
   | 11,ho=>cases ho;obtain ⟨q,hq,Am,An,Ao⟩:=(show (kKind _).p w _ from H7_);exact rk_bs_05 rfl hq (show (kExs _ dE 1).p w _ from H10_) (fun h=>absurd h An) (fun h=>absurd h Ao) (fun h=>absurd h Am) hI
   | 12,ho=>cases ho;exact bj_ (fun _ h=>h) A7 A2.o.1 A2.o.2 rfl (hout 2 d_) (show (kSt _ 0).p w _ from H11_) hI
   | q+13,ho=>exact n_ ho
  intro a w2 hI hsz A0 hout A4;go_wp2;exact A1.o a w2 hI A0 (hout 2 d_)
 go_upto_region 25 with fail;refine bf_ (X:=(x1 X1)) (Inv:=(InvR d b lp X1 Z1 w w (al_ (0)) pS)) (ks:=fun i=>([(kStr _),(kV _ (pt b)),(kEx _ 2),(kSt _ 0),(kAny _)]:List (SK (x1 X1))).getD i (kAny _)) k_ (A5.o _ A3.o A6.o) ?_ ?_
 ·intro i o ho a w hI hout hin
  match i,ho with
  | 0,ho=>cases ho;exact bm_ (.inl rfl) (show (kStr _).p w _ from ⟨s,hout 3 d_,hs⟩) hI
  | 1,ho=>cases ho;exact M0_
  | 2,ho=>cases ho;exact rk_pointer HC.o rfl H1_ hI
  | 3,ho=>cases ho;exact di_ HC.o rfl (show (kStr _).p w _ from H0_) (bi_ (d':=dE) d_ (show (kEx _ 2).p w _ from H2_)) hI
  | 4,ho=>cases ho;exact bj_ (fun _ h=>h) A7 A2.o.1 A2.o.2 rfl (hout 2 d_) (show (kSt _ 0).p w _ from H3_) hI
  | q+5,ho=>exact n_ ho
 intro a w2 hI hsz A0 hout A4;go_wp2;exact A1.o a w2 hI A0 (hout 2 d_)
theorem Dice.grown {w w':World} {d:Nat} {row:Option Nat} (h:Dice w d) (hg:w.grownBy w' row) (hr:∀ k,row=some k->d<k):Dice w' d:=by
 obtain ⟨hd,S,sn,sc,a,h0,h1,h2,h3,h4,h5⟩:=h;have hc:∀ q j,q<=d->w'.cell? (f_ q j)=w.cell? (f_ q j):=fun q j hq=>(gcell hg).1 q j o_ (fun e=>by have:=hr _ e.symm;omega)
 refine ⟨lt_ hd hg.size,S,sn,sc,a,(hc _ _ (l_)).trans h0,(hc _ _ (l_)).trans h1,((gcell hg).2 _ _ hd (fun e=>by have:=hr _ e.symm;omega)).trans h2,h3,h4,fun i hi=>?_⟩;obtain ⟨sb,so,x,e,h6,h7,h8,h9⟩:=h5 i hi;exact ⟨sb,so,x,e,h6,h7,h8,(hc _ _ o_).trans h9⟩
theorem Mk.grown {w w':World} {d b lp:Nat} {row:Option Nat} (h:Mk d b lp w) (hg:w.grownBy w' row) (hr:∀ k,row=some k->b<k):Mk d b lp w':=by
 obtain ⟨l,h1⟩:=h.c1;obtain ⟨f,h3⟩:=h.c3;have hn:=h.ne;have hc:∀ j,w'.cell? (f_ b j)=w.cell? (f_ b j):=fun j=>(gcell hg).1 b j h.lt (fun e=>by have:=hr _ e.symm;omega)
 exact ⟨h.dice.grown hg (fun k hk=>by have:=hr k hk;omega),hn,lt_ h.lt hg.size,(hc 0).trans h.c0,⟨l,(hc 1).trans h1⟩,(hc 2).trans h.c2,⟨f,(hc 3).trans h3⟩,fun j=>((gcell hg).2 b j h.lt (fun e=>by have:=hr _ e.symm;omega)).trans (h.fz j)⟩
theorem Md.grown {w w' w2:World} {d b lp:Nat} {row:Option Nat} (h:Md d b lp w w') (hg:w'.grownBy w2 row) (hr:∀ k,row=some k->w<=k) (hb:b<w):Md d b lp w w2:=⟨h.ok.grown hg (fun k hk=>by have:=hr k hk;omega),h.kp.grown hg (fun k hk=>.inr (hr k hk))⟩
def StOK (deep D:Nat):Prop:=∀ (d b lp:Nat) (X:NP) (w:World),lp<=100+deep->Mk d b lp w->(∀ q,Zm d b q->X q)->(∀ q,X q->q<w)->Calls prog 166 #[.pointer (some (a_ b)),i_ deep] w fun e w'=>RS X D e w'/\Md d b lp w w'
def RLO (X:NP) (base D q:Nat) (e:Ending) (w:World):Prop:=∃ (A:OA) (n c:Nat),e=.returned (.slice A n c)/\n<=q/\(n=0->A=none)/\Hid (OwP w base 212 pS (al_ D) X 20 A n c)
def LsOK (deep D:Nat):Prop:=∀ (d b lp:Nat) (X:NP) (n:Nat) (w:World),n<=6->lp<=100+deep->Mk d b lp w->(∀ q,Zm d b q->X q)->(∀ q,X q->q<w)->Calls prog 113 #[.pointer (some (a_ b)),i_ deep,i_ n] w fun e w'=>RLO X w D (n+1) e w'/\Md d b lp w w'
theorem ei_stmt {D:Nat}:EI prog 192 212 (al_ D) 128:=EI.of (z:=.agg #[i_ 0,.string ⟨#[]⟩,.string ⟨#[]⟩,i_ 0,i_ 0,.slice none 0 0,.slice none 0 0,.slice none 0 0]) underlying192 (by rw [bz_];kernel_rfl) (by rw [bz_];rfl) (by rw [bz_];decide)
theorem OwP.kpz {w w':World} {base:Nat} {et:TypeId} {p:VL->Prop} {e:List CT} {X Z:NP} {K n c:Nat} {A:OA} (h:OwP w base et p e X K A n c) (hk:Kp Z w w') (hz:∀ k,Z k->X k) (hb:∀ k,Z k->k<base):OwP w' base et p e X K A n c:=by
 obtain ⟨xs,ho,hx⟩:=h;refine ⟨xs,own_kp ho hk (fun g hg A1=>by have:=(an_ ho hg).1;have:=hb g A1;omega),fun k A0=>?_⟩;obtain ⟨vs,h1,h2,h3⟩:=hx k A0;exact ⟨vs,h1.kept (hk.mono (fun k _ h=>.inl (hz k h))) (fun _ _ h=>h) (l_),h2,h3⟩
theorem OwP.blk {w:World} {base:Nat} {et:TypeId} {p:VL->Prop} {e:List CT} {X:NP} {K n c:Nat} {A:OA} (h:OwP w base et p e X K A n c) {g:Nat} (hg:(Value.slice A n c).ownBlock=some g):base<=g/\g<w:=by
 obtain ⟨xs,ho,_⟩:=h;exact an_ ho hg
theorem list_of (deep D:Nat) (hdeep:deep<=3) (hS:StOK deep D):LsOK deep D:=by
 intro d b lp X n w hn An hM hz Ab;have A2:∀ q:Nat,q<100->IntKind.i64.wrap ((q:Int)+1)=((q+1:Nat):Int):=fun q hq=>by rw [IntKind.wrap_i64];omega
 have c0:=hM.c0;have Aq:=hM.lt;have HM:=q_ hM;have HX:=q_ Ab;have HZ:=q_ hz;have HS:=q_ hS;have As:IntKind.i64.wrap ((n:Int)+1)=((n+1:Nat):Int):=A2 n o_;clear hM Ab hz hS A2;go_enter func113,ntmps113;go_upto_region 2 with fail;go_upto_region 3 with (go_at_call 26;refine (bo_ d (n+1) w HM.o.dice o_ o_).mono ?_;rintro e w1 ⟨r,hr,rfl,ht,_⟩);have Ae:=q_ (HM.o.thrown ht);have Ad:=q_ (ht.kp b);have Au:(w:Nat)<=w1:=ht.size;clear c0 ht;go_upto_block 0 with fail;go_loopw [7,8] (fun o iv wr=>∃ (A:OA) (m c:Nat),m<=r+1/\(m=0->A=none)/\o=.slice A m c/\iv=i_ ((r:Int) - (m:Int))/\Hid (OwP wr w 212 pS (al_ D) X 20 A m c)/\Hid (Md d b lp w wr)) (fun _ iv _=>(intOf iv+1).toNat)
 case atStart=>exact ⟨none,0,0,o_,fun _=>rfl,rfl,by simp,q_ (OwP.nil _ _ _ _ _ _ _),q_ ⟨Ae.o,Ad.o⟩⟩
 obtain ⟨A,m,c,hm,Ac,rfl,rfl,HO,A1⟩:=hrel;obtain ⟨A0,c1⟩:=A1.o.ok.c1;have Ap:=A1.o.ok.lt;have Am:=A1.o.ok.fz 1;have Av:(w:Nat)<=wr:=A1.o.kp.size;by_cases hge:0<=(r:Int) - (m:Int)
 ·by_cases hl:0<A0
  ·have Ar:m<=r:=by omega
   have A3:=q_ (A1.o.set1 (wrap64 (A0 - 1)));have A4:=q_ (HO.o.kpz (Z:=Zm d b) ((Kp.refl (Zm d b) wr).setCell (p:=(f_ b 1)) (.inl (.inr rfl)) (i_ (wrap64 (A0 - 1)))) HZ.o (fun k hk=>HX.o k (HZ.o k hk)));obtain ⟨V,hV⟩:=ex_ (wr.setCell (f_ b 1) (i_ (wrap64 (A0 - 1))));rw [←hV] at A3 A4;have Ao:(V:Nat)=wr:=by rw [hV];simp
   go_upto_region 6 with fail;rw [←hV];clear hV c1 Am;go_wp2_with fail;refine (HS.o d b lp (Wi X (Value.slice A m c).ownBlock) V An A3.o.ok (fun q hq=>.inl (HZ.o q hq)) (fun q hq=>by rcases hq with hq | hq;(have:=HX.o q hq;omega);exact (A4.o.blk hq).2)).mono ?_;rintro e V1 ⟨⟨kd,s,f,n',op,E,em,ec,B,m1,c1,C,m2,c2,rfl,hv⟩,A6⟩;have A7:=q_ (A3.o.trans A6);have A9:=q_ (A4.o.kpz A6.kp HZ.o (fun k hk=>HX.o k (HZ.o k hk)));have Al:(w:Nat)<=V1:=A7.o.kp.size;have HV:=q_ hv.o;have BN:=q_ (Bx.new V1 (stL kd s f n' op E em ec B m1 c1 C m2 c2) 212);obtain ⟨U,hU⟩:=ex_ (V1.alloc (.cells (stL kd s f n' op E em ec B m1 c1 C m2 c2).toArray 212));rw [←hU] at BN;have A5:Below V1 V1 U:=by rw [hU];exact (b_).alloc (l_) _
   have A8:=q_ (A7.o.below A5);have Aa:=q_ (A9.o.below A5);have Ah:=h_ (SlP U (Wi X (Value.slice A m c).ownBlock) 20 pS (al_ D) (some (a_ V1)) 1 1) (SlP.one BN.o (fun h=>by rcases h with h | h;(have:=HX.o _ h;omega);(have:=(A9.o.blk h).2;omega)) d_ (HV.o.1.up (.of_below A5) (l_)) HV.o.2);have Ak:(w:Nat)<=U:=A8.o.kp.size;have Aj:=h_ (∀ k,X k->k<U) (fun k hk=>by have:=HX.o k hk;omega);have Ai:=h_ (U=V1.alloc (.cells #[i_ kd,.string s,.string f,i_ n',i_ op,.slice E em ec,.slice B m1 c1,.slice C m2 c2] 212)) hU;clear hv A6 hU;go_wp2_with (at_builtin;rw [←Ai.o];refine dv_ rfl _ _ rfl ei_stmt v_ Aa.o v_ Ah.o Aj.o m_ o_ Ak ?_;intro A' c' w6 o6 g6 l6);have Ag:=q_ o6;have Af:=q_ (A8.o.grown g6 (fun k hk=>(Aa.o.blk hk).1) HM.o.lt);clear o6 g6 l6;go_roundw
   case rel=>exact ⟨A',m+1,c',o_,fun h=>o_,rfl,by go_num,Ag,Af⟩
   case measure=>simp [intOf];omega
  go_wp2;go_ret;exact ⟨⟨A,m,c,rfl,o_,Ac,HO⟩,A1.o⟩
 go_wp2;go_ret;exact ⟨⟨A,m,c,rfl,o_,Ac,HO⟩,A1.o⟩
end Go.Proofs.YtfolidlmgfhkiaaGreat
