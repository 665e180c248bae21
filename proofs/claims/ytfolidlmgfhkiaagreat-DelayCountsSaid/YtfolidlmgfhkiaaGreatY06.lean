/- Lemmas on functions of the program, under the conditions that each states. -/
import Derived.Test.YtfolidlmgfhkiaaGreatY05
set_option linter.unusedVariables false
set_option linter.unusedSimpArgs false
set_option maxRecDepth 100000
set_option maxHeartbeats 8000000
namespace Go.Proofs.YtfolidlmgfhkiaaGreat
open Go.RowKit Go.Proofs.Tryz
section
variable {Q:Exit->Act->World->Prop} {X:XE} {Inv:World->Prop} {o:Oper} {a:Act} {w:World} {d b lp:Nat} {x y:Operand}
theorem rk_pointer (hC:IC d b lp X Inv) (ho:o.op=.call { callee:=.value (.func 205),args:=#[x],argTypes:=#[203] }) (hx:a.eval x=.pointer (some (a_ b))) (hI:Inv w):RnK prog Q X Inv (kEx X 2) o a w:=by
 have hf:a.eval (.func 205)=.func (.func 205) #[] #[]:=rfl;generalize hr:a.eval=r at hx hf;refine cm_ (f:=205) (args:=#[.pointer (some (a_ b))]) yu_ ((pointer_ok d b lp X w (hC.ok w hI) hC.zx (hC.lt w hI)).mono ?_);exact ut_
theorem rk_callm (hC:IC d b lp X Inv) (ho:o.op=.call { callee:=.value (.func 206),args:=#[x,y],argTypes:=#[203,9] }) (hx:a.eval x=.pointer (some (a_ b))) (hy:(kStr X).p w (a.eval y)) (hI:Inv w):RnK prog Q X Inv (kSt X 0) o a w:=by
 obtain ⟨s,hy,hs⟩:=hy;have hf:a.eval (.func 206)=.func (.func 206) #[] #[]:=rfl;generalize hr:a.eval=r at hx hy hf;refine cm_ (f:=206) (args:=#[.pointer (some (a_ b)),.string s]) yc_ ((call_ok d b lp X s w hs (hC.ok w hI) hC.zx (hC.lt w hI)).mono ?_);exact ui_
end
def SimpleOK:Prop:=∀ (d b lp:Nat) (X:NP) (w:World),Mk d b lp w->(∀ q,Zm d b q->X q)->(∀ q,X q->q<w)->Calls prog 196 #[.pointer (some (a_ b))] w fun e w'=>RS X 0 e w'/\Md d b lp w w'
theorem simple_ok:SimpleOK:=by
 intro d b lp X w hM hz Ah;obtain ⟨W,hW,Ae,Al,B0⟩:=ag_ w [i_ 0,.string ⟨#[]⟩,.string ⟨#[]⟩,i_ 0,i_ 0,.slice none 0 0,.slice none 0 0,.slice none 0 0] 212;have A9:=hM.below Ae;have A7:b<w:=hM.lt;obtain ⟨X1,Aa⟩:∃ X1:NP,X1=fun q=>X q\/q=w:=⟨_,rfl⟩
 obtain ⟨Z1,Ac⟩:∃ Z1:NP,Z1=fun q=>Zm d b q\/q=w:=⟨_,rfl⟩
 have A2:=h_ (X1 w/\Z1 w) (⟨by rw [Aa];exact .inr rfl,by rw [Ac];exact .inr rfl⟩);have Af:InvR d b lp X1 Z1 w w (ah_ (0)) pS W:=⟨A9,.of_below Ae,fun q hq=>by rw [Aa] at hq;rcases hq with hq | hq;(have:=Ah q hq;omega);omega,_,B0,ec_ (SlP.nil _ _ _ _ _),pS_st x_ x_ x_ d_ d_⟩;have hC:IC d b lp (x1 X1) (InvR d b lp X1 Z1 w w (ah_ (0)) pS):=InvR.ic (fun _ _ _ h=>h) (fun q hq=>by rw [Aa];exact .inl (hz q hq)) (fun q hq=>by rw [Ac];exact .inl hq) hM.nz;have HC:=q_ hC;have A5:=h_ (∀ w',Mk d b lp w'->Kp (Zm d b) W w'->InvR d b lp X1 Z1 w w (ah_ (0)) pS w') (fun w' h1 h2=>hC.up W w' Af h1 h2);have A1:=h_ (∀ (a:Act) (w2:World),InvR d b lp X1 Z1 w w (ah_ (0)) pS w2->a.defers=[]->a.tmps.getD 2 undef=.pointer (some (a_ w))->bodyPost prog f196 (fun e w'=>RS X (0) e w'/\Md d b lp w w') .ret a w2) (fun a w2 hI A0 ha=>by
  obtain ⟨cs,g1,g2,g3⟩:=hI.bx
  obtain ⟨kd,s,f,n,op,A,B,C,m,c,c1,c2,rfl,_⟩:=g2.stmt0
  refine retC results196 ha underlying212 rfl (cs:=stL kd s f n op A m c B 0 c1 C 0 c2) isz8 g1.whole A0 ⟨⟨_,_,_,_,_,_,_,_,_,_,_,_,_,_,rfl,q_ ⟨g2.less (fun q _ hq=>by rw [Aa];exact .inl hq),g3⟩⟩,hI.ok,hI.kp.mono (fun q hq Ai=>?_)⟩
  rw [Ac] at Ai
  rcases Ai with h | h
  ·exact h
  omega)
 have c0:=A9.c0;have Ad:=A9.lt;have HD:=q_ A9.dice;have Ak:=q_ A9;clear hM hz Ah B0 Ae Af hC Al Aa Ac;go_enter func196,ntmps196;go_upto_region 1 with fail;rw [<-hW];clear hW;go_cut [3] (fun v wx=>∃ s:ByteArray,v=.string s/\s.size<=100/\Hid (Mk d b lp wx)/\Hid (Kp (Zm d b) W wx))
 case first =>
  refine do_ (X:=⟨Zm d b,fun _=>True⟩) (Inv:=fun w2=>Mk d b lp w2/\Kp (Zm d b) W w2) (ks:=fun i=>([(bu_ _ 5),(kV _ (pt b)),(kV _ (pt b)),(kV _ (pt b)),(kV _ (pt d)),(bu_ _ 5),(kV _ (i_ (5:Nat))),(kNat _ 5),(di_ _),(kStr _),(kStr _)]:List (SK (x1 (Zm d b)))).getD i (kAny _)) rfl k_ ⟨Ak.o.below (Below.drew (b_)),Kp.of_below (Below.drew (b_))⟩ ?_ ?_
  ·have HC:=h_ (IC d b lp ⟨Zm d b,fun _=>True⟩ (fun w2=>Mk d b lp w2/\Kp (Zm d b) W w2)) (⟨fun _ h=>h.1,fun _ h=>h,fun _ h=>h.1.zlt,fun _ _ h h1 h2=>⟨h1,h.2.trans h2⟩,fun _ _ _ _ h=>h⟩);intro i o ho a w hI hout hin
   match i,ho with
   | 0,ho=>cases ho;exact rk_names HC.o rfl hI
   | 1,ho=>cases ho;exact M0_
   | 2,ho=>cases ho;exact cd_ rfl H1_ hI
   | 3,ho=>cases ho;exact cc_ d_ rfl H2_ hI
   | 4,ho=>cases ho;exact bm_ HC.o rfl H3_ hI
   | 5,ho=>cases ho;exact rk_names HC.o rfl hI
   | 6,ho=>cases ho;exact rk_len rfl (show (bu_ _ 5).p w _ from H5_) hI
   | 7,ho=>cases ho;exact br_ (n:=5) HC.o rfl H4_ H6_ d_ d_ hI
   | 8,ho=>cases ho;exact rk_idx (n:=5) rfl (show (bu_ _ 5).p w _ from H0_) (show (kNat _ 5).p w _ from H7_) hI
   | 9,ho=>cases ho;exact ep_ rfl (show (di_ _).p w _ from H8_) hI
   | 10,ho=>cases ho;exact bp_ (.inr rfl) (show (kStr _).p w _ from H9_) hI
   | q+11,ho=>exact n_ ho
  intro a w2 hI hsz A0 hout A4;obtain ⟨gs,Ag⟩:∃ gs:Nat->Value,∀ t,a.tmps.getD t undef=gs t:=⟨_,fun _=>rfl⟩;obtain ⟨s,hs,hz⟩:(kStr ⟨Zm d b,fun _=>True⟩).p w2 (gs 3):=by rw [<-Ag];exact A4 10 _ _ rfl rfl
  have ha:=dn_ (D:=[4,5,6,7,8,9,10,11,12,13,3]) hsz A0 t_ hout Ag;simp only [List.foldl_cons,List.foldl_nil,Act.put,List.setIfInBounds_toArray,List.set_cons_zero,List.set_cons_succ] at ha;subst ha;go_wp2;go_meet;first | exact ⟨s,rfl,hz,q_ hI.1,q_ hI.2⟩ | exact ⟨s,hs,hz,q_ hI.1,q_ hI.2⟩
 case rest =>
 rename World=>w0
 obtain ⟨s,rfl,hs,A8,Aj⟩:=hcut;clear c0 Ad;have c0:=A8.o.c0;have Ad:=A8.o.lt;obtain ⟨fn,c3⟩:=A8.o.c3;go_upto_region 3 with (go_at_call 26;refine (bf_ d 13 w0 A8.o.dice d_ d_).mono ?_;rintro e w1 ⟨r,hr,rfl,ht,_⟩);have A3:=q_ (A8.o.thrown ht);have A6:=q_ (Aj.o.trans (ht.kp b));clear c0 Ad ht c3;obtain ⟨fn,c3⟩:=A3.o.c3;have Ad:=A3.o.lt;have Ab:r=0\/r=1\/r=2\/r=3\/r=4\/r=5\/r=6\/r=7\/r=8\/r=9\/(r=10/\fn<2)\/(r=10/\¬fn<2)\/r=11\/r=12:=by omega
 rcases Ab with rfl | rfl | rfl | rfl | rfl | rfl | rfl | rfl | rfl | rfl | ⟨rfl,hfn⟩ | ⟨rfl,hfn⟩ | rfl | rfl
 ·go_upto_region 5 with fail;refine bg_ (X:=(x1 X1)) (Inv:=(InvR d b lp X1 Z1 w w (ah_ (0)) pS)) (ks:=fun i=>([(kStr _),(kV _ (pt b)),(kEx _ 3),(kSt _ 0),(kAny _)]:List (SK (x1 X1))).getD i (kAny _)) k_ (A5.o _ A3.o A6.o) ?_ ?_
  ·intro i o ho a w hI hout hin
   match i,ho with
   | 0,ho=>cases ho;exact bp_ (.inl rfl) (show (kStr _).p w _ from ⟨s,hout 3 d_,hs⟩) hI
   | 1,ho=>cases ho;exact M0_
   | 2,ho=>cases ho;exact ci_ (k:=2) HC.o (cl_ 2 d_) rfl H1_ rfl hI
   | 3,ho=>cases ho;exact dk_ HC.o rfl (show (kStr _).p w _ from H0_) (bi_ (d':=dE) d_ (show (kEx _ 3).p w _ from H2_)) hI
   | 4,ho=>cases ho;exact bj_ (fun _ h=>h) A7 A2.o.1 A2.o.2 rfl (hout 2 d_) (show (kSt _ 0).p w _ from H3_) hI
   | q+5,ho=>exact n_ ho
  exact vy_
 ·go_upto_region 5 with fail;refine bg_ (X:=(x1 X1)) (Inv:=(InvR d b lp X1 Z1 w w (ah_ (0)) pS)) (ks:=fun i=>([(kStr _),(kV _ (pt b)),(kEx _ 3),(kSt _ 0),(kAny _)]:List (SK (x1 X1))).getD i (kAny _)) k_ (A5.o _ A3.o A6.o) ?_ ?_
  ·intro i o ho a w hI hout hin
   match i,ho with
   | 0,ho=>cases ho;exact bp_ (.inl rfl) (show (kStr _).p w _ from ⟨s,hout 3 d_,hs⟩) hI
   | 1,ho=>cases ho;exact M0_
   | 2,ho=>cases ho;exact ci_ (k:=2) HC.o (cl_ 2 d_) rfl H1_ rfl hI
   | 3,ho=>cases ho;exact dk_ HC.o rfl (show (kStr _).p w _ from H0_) (bi_ (d':=dE) d_ (show (kEx _ 3).p w _ from H2_)) hI
   | 4,ho=>cases ho;exact bj_ (fun _ h=>h) A7 A2.o.1 A2.o.2 rfl (hout 2 d_) (show (kSt _ 0).p w _ from H3_) hI
   | q+5,ho=>exact n_ ho
  exact vy_
 ·go_upto_region 7 with fail;refine do_ (X:=(x1 X1)) (Inv:=(InvR d b lp X1 Z1 w w (ah_ (0)) pS)) (ks:=fun i=>([(bu_ _ 2),(kV _ (pt b)),(kV _ (pt b)),(kV _ (pt b)),(kV _ (pt d)),(kNat _ 2),(di_ _),(kStr _),(kV _ (pt b)),(kV _ (pt b)),(kV _ (pt b)),(kV _ (pt d)),(kNat _ 2),(kInt _),(kEx _ 0),(kSt _ 0),(kAny _)]:List (SK (x1 X1))).getD i (kAny _)) rfl k_ (A5.o _ (A3.o.below (Below.drew (b_))) (A6.o.az_ (Below.drew (b_)))) ?_ ?_
  ·intro i o ho a w hI hout hin
   match i,ho with
   | 0,ho=>cases ho;exact rk_bst2 HC.o rfl d_ d_ hI
   | 1,ho=>cases ho;exact M0_
   | 2,ho=>cases ho;exact cd_ rfl H1_ hI
   | 3,ho=>cases ho;exact cc_ d_ rfl H2_ hI
   | 4,ho=>cases ho;exact bm_ HC.o rfl H3_ hI
   | 5,ho=>cases ho;exact br_ (n:=2) HC.o rfl H4_ rfl d_ d_ hI
   | 6,ho=>cases ho;exact rk_idx (n:=2) rfl (show (bu_ _ 2).p w _ from H0_) (show (kNat _ 2).p w _ from H5_) hI
   | 7,ho=>cases ho;exact ep_ rfl (show (di_ _).p w _ from H6_) hI
   | 8,ho=>cases ho;exact M0_
   | 9,ho=>cases ho;exact cd_ rfl H8_ hI
   | 10,ho=>cases ho;exact cc_ d_ rfl H9_ hI
   | 11,ho=>cases ho;exact bm_ HC.o rfl H10_ hI
   | 12,ho=>cases ho;exact br_ (n:=2) HC.o rfl H11_ rfl d_ d_ hI
   | 13,ho=>cases ho;exact rk_add (.inl rfl) rfl ⟨_,rfl⟩ (cu_ (show (kNat _ 2).p w _ from H12_)) hI
   | 14,ho=>cases ho;exact rk_be1 rfl d_ (show (kInt _).p w _ from H13_) hI
   | 15,ho=>cases ho;exact dk_ HC.o rfl (show (kStr _).p w _ from H7_) (bi_ (d':=dE) d_ (show (kEx _ 0).p w _ from H14_)) hI
   | 16,ho=>cases ho;exact bj_ (fun _ h=>h) A7 A2.o.1 A2.o.2 rfl (hout 2 d_) (show (kSt _ 0).p w _ from H15_) hI
   | q+17,ho=>exact n_ ho
  exact vy_
 ·go_upto_region 10 with fail;refine bg_ (X:=(x1 X1)) (Inv:=(InvR d b lp X1 Z1 w w (ah_ (0)) pS)) (ks:=fun i=>([(kV _ (pt b)),(kV _ (pt b)),(kV _ (pt b)),(kV _ (pt d)),(kNat _ 3),(kV _ (pt b)),(kEx _ 2),(kV _ (pt b)),(kEx _ 2),(kExs _ dE 2),(kSt _ 0),(kAny _)]:List (SK (x1 X1))).getD i (kAny _)) k_ (A5.o _ A3.o A6.o) ?_ ?_
  ·intro i o ho a w hI hout hin
   match i,ho with
   | 0,ho=>cases ho;exact M0_
   | 1,ho=>cases ho;exact cd_ rfl H0_ hI
   | 2,ho=>cases ho;exact cc_ d_ rfl H1_ hI
   | 3,ho=>cases ho;exact bm_ HC.o rfl H2_ hI
   | 4,ho=>cases ho;exact br_ (n:=3) HC.o rfl H3_ rfl d_ d_ hI
   | 5,ho=>cases ho;exact M0_
   | 6,ho=>cases ho;exact rk_pointer HC.o rfl H5_ hI
   | 7,ho=>cases ho;exact M0_
   | 8,ho=>cases ho;exact ci_ (k:=1) HC.o (cl_ 1 d_) rfl H7_ rfl hI
   | 9,ho=>cases ho;exact rk_bse2 HC.o rfl (bi_ (d':=dE) d_ (show (kEx _ 2).p w _ from H6_)) (bi_ (d':=dE) d_ (show (kEx _ 2).p w _ from H8_)) hI
   | 10,ho=>cases ho;exact rk_bs_035 rfl rfl (cu_ (show (kNat _ 3).p w _ from H4_)) (show (kExs _ dE 2).p w _ from H9_) d_ d_ (fun h=>absurd h d_) hI
   | 11,ho=>cases ho;exact bj_ (fun _ h=>h) A7 A2.o.1 A2.o.2 rfl (hout 2 d_) (show (kSt _ 0).p w _ from H10_) hI
   | q+12,ho=>exact n_ ho
  exact vy_
 ·go_upto_region 10 with fail;refine bg_ (X:=(x1 X1)) (Inv:=(InvR d b lp X1 Z1 w w (ah_ (0)) pS)) (ks:=fun i=>([(kV _ (pt b)),(kV _ (pt b)),(kV _ (pt b)),(kV _ (pt d)),(kNat _ 3),(kV _ (pt b)),(kEx _ 2),(kV _ (pt b)),(kEx _ 2),(kExs _ dE 2),(kSt _ 0),(kAny _)]:List (SK (x1 X1))).getD i (kAny _)) k_ (A5.o _ A3.o A6.o) ?_ ?_
  ·intro i o ho a w hI hout hin
   match i,ho with
   | 0,ho=>cases ho;exact M0_
   | 1,ho=>cases ho;exact cd_ rfl H0_ hI
   | 2,ho=>cases ho;exact cc_ d_ rfl H1_ hI
   | 3,ho=>cases ho;exact bm_ HC.o rfl H2_ hI
   | 4,ho=>cases ho;exact br_ (n:=3) HC.o rfl H3_ rfl d_ d_ hI
   | 5,ho=>cases ho;exact M0_
   | 6,ho=>cases ho;exact rk_pointer HC.o rfl H5_ hI
   | 7,ho=>cases ho;exact M0_
   | 8,ho=>cases ho;exact ci_ (k:=1) HC.o (cl_ 1 d_) rfl H7_ rfl hI
   | 9,ho=>cases ho;exact rk_bse2 HC.o rfl (bi_ (d':=dE) d_ (show (kEx _ 2).p w _ from H6_)) (bi_ (d':=dE) d_ (show (kEx _ 2).p w _ from H8_)) hI
   | 10,ho=>cases ho;exact rk_bs_035 rfl rfl (cu_ (show (kNat _ 3).p w _ from H4_)) (show (kExs _ dE 2).p w _ from H9_) d_ d_ (fun h=>absurd h d_) hI
   | 11,ho=>cases ho;exact bj_ (fun _ h=>h) A7 A2.o.1 A2.o.2 rfl (hout 2 d_) (show (kSt _ 0).p w _ from H10_) hI
   | q+12,ho=>exact n_ ho
  exact vy_
 ·go_upto_region 13 with fail;refine do_ (X:=(x1 X1)) (Inv:=(InvR d b lp X1 Z1 w w (ah_ (0)) pS)) (ks:=fun i=>([(bu_ _ 2),(kV _ (pt b)),(kV _ (pt b)),(kV _ (pt b)),(kV _ (pt d)),(kNat _ 2),(di_ _),(kStr _),(kInts' _ 4),(kV _ (pt b)),(kV _ (pt b)),(kV _ (pt b)),(kV _ (pt d)),(kNat _ 4),(kPInt' _),(kInt _),(kV _ (pt b)),(kEx _ 2),(kExs _ dE 1),(kSt _ 0),(kAny _)]:List (SK (x1 X1))).getD i (kAny _)) rfl k_ (A5.o _ (A3.o.below (Below.drew (b_))) (A6.o.az_ (Below.drew (b_)))) ?_ ?_
  ·intro i o ho a w hI hout hin
   match i,ho with
   | 0,ho=>cases ho;exact rk_bst2 HC.o rfl d_ d_ hI
   | 1,ho=>cases ho;exact M0_
   | 2,ho=>cases ho;exact cd_ rfl H1_ hI
   | 3,ho=>cases ho;exact cc_ d_ rfl H2_ hI
   | 4,ho=>cases ho;exact bm_ HC.o rfl H3_ hI
   | 5,ho=>cases ho;exact br_ (n:=2) HC.o rfl H4_ rfl d_ d_ hI
   | 6,ho=>cases ho;exact rk_idx (n:=2) rfl (show (bu_ _ 2).p w _ from H0_) (show (kNat _ 2).p w _ from H5_) hI
   | 7,ho=>cases ho;exact ep_ rfl (show (di_ _).p w _ from H6_) hI
   | 8,ho=>cases ho;exact rk_bsi4' HC.o rfl hI
   | 9,ho=>cases ho;exact M0_
   | 10,ho=>cases ho;exact cd_ rfl H9_ hI
   | 11,ho=>cases ho;exact cc_ d_ rfl H10_ hI
   | 12,ho=>cases ho;exact bm_ HC.o rfl H11_ hI
   | 13,ho=>cases ho;exact br_ (n:=4) HC.o rfl H12_ rfl d_ d_ hI
   | 14,ho=>cases ho;exact rk_idxi' (n:=4) rfl (show (kInts' _ 4).p w _ from H8_) (show (kNat _ 4).p w _ from H13_) hI
   | 15,ho=>cases ho;exact rk_lint' rfl (show (kPInt' _).p w _ from H14_) hI
   | 16,ho=>cases ho;exact M0_
   | 17,ho=>cases ho;exact ci_ (k:=1) HC.o (cl_ 1 d_) rfl H16_ rfl hI
   | 18,ho=>cases ho;exact dt_ HC.o rfl (bi_ (d':=dE) d_ (show (kEx _ 2).p w _ from H17_)) hI
   | 19,ho=>cases ho;exact rk_bs_0145 rfl rfl (show (kStr _).p w _ from H7_) (show (kInt _).p w _ from H15_) (show (kExs _ dE 1).p w _ from H18_) d_ d_ (fun h=>absurd h d_) hI
   | 20,ho=>cases ho;exact bj_ (fun _ h=>h) A7 A2.o.1 A2.o.2 rfl (hout 2 d_) (show (kSt _ 0).p w _ from H19_) hI
   | q+21,ho=>exact n_ ho
  exact vy_
 ·go_upto_region 13 with fail;refine do_ (X:=(x1 X1)) (Inv:=(InvR d b lp X1 Z1 w w (ah_ (0)) pS)) (ks:=fun i=>([(bu_ _ 2),(kV _ (pt b)),(kV _ (pt b)),(kV _ (pt b)),(kV _ (pt d)),(kNat _ 2),(di_ _),(kStr _),(kInts' _ 4),(kV _ (pt b)),(kV _ (pt b)),(kV _ (pt b)),(kV _ (pt d)),(kNat _ 4),(kPInt' _),(kInt _),(kV _ (pt b)),(kEx _ 2),(kExs _ dE 1),(kSt _ 0),(kAny _)]:List (SK (x1 X1))).getD i (kAny _)) rfl k_ (A5.o _ (A3.o.below (Below.drew (b_))) (A6.o.az_ (Below.drew (b_)))) ?_ ?_
  ·intro i o ho a w hI hout hin
   match i,ho with
   | 0,ho=>cases ho;exact rk_bst2 HC.o rfl d_ d_ hI
   | 1,ho=>cases ho;exact M0_
   | 2,ho=>cases ho;exact cd_ rfl H1_ hI
   | 3,ho=>cases ho;exact cc_ d_ rfl H2_ hI
   | 4,ho=>cases ho;exact bm_ HC.o rfl H3_ hI
   | 5,ho=>cases ho;exact br_ (n:=2) HC.o rfl H4_ rfl d_ d_ hI
   | 6,ho=>cases ho;exact rk_idx (n:=2) rfl (show (bu_ _ 2).p w _ from H0_) (show (kNat _ 2).p w _ from H5_) hI
   | 7,ho=>cases ho;exact ep_ rfl (show (di_ _).p w _ from H6_) hI
   | 8,ho=>cases ho;exact rk_bsi4' HC.o rfl hI
   | 9,ho=>cases ho;exact M0_
   | 10,ho=>cases ho;exact cd_ rfl H9_ hI
   | 11,ho=>cases ho;exact cc_ d_ rfl H10_ hI
   | 12,ho=>cases ho;exact bm_ HC.o rfl H11_ hI
   | 13,ho=>cases ho;exact br_ (n:=4) HC.o rfl H12_ rfl d_ d_ hI
   | 14,ho=>cases ho;exact rk_idxi' (n:=4) rfl (show (kInts' _ 4).p w _ from H8_) (show (kNat _ 4).p w _ from H13_) hI
   | 15,ho=>cases ho;exact rk_lint' rfl (show (kPInt' _).p w _ from H14_) hI
   | 16,ho=>cases ho;exact M0_
   | 17,ho=>cases ho;exact ci_ (k:=1) HC.o (cl_ 1 d_) rfl H16_ rfl hI
   | 18,ho=>cases ho;exact dt_ HC.o rfl (bi_ (d':=dE) d_ (show (kEx _ 2).p w _ from H17_)) hI
   | 19,ho=>cases ho;exact rk_bs_0145 rfl rfl (show (kStr _).p w _ from H7_) (show (kInt _).p w _ from H15_) (show (kExs _ dE 1).p w _ from H18_) d_ d_ (fun h=>absurd h d_) hI
   | 20,ho=>cases ho;exact bj_ (fun _ h=>h) A7 A2.o.1 A2.o.2 rfl (hout 2 d_) (show (kSt _ 0).p w _ from H19_) hI
   | q+21,ho=>exact n_ ho
  exact vy_
 ·go_upto_region 15 with fail;refine bg_ (X:=(x1 X1)) (Inv:=(InvR d b lp X1 Z1 w w (ah_ (0)) pS)) (ks:=fun i=>([(kV _ (pt b)),(kEx _ 2),(kExs _ dE 1),(kSt _ 0),(kAny _)]:List (SK (x1 X1))).getD i (kAny _)) k_ (A5.o _ A3.o A6.o) ?_ ?_
  ·intro i o ho a w hI hout hin
   match i,ho with
   | 0,ho=>cases ho;exact M0_
   | 1,ho=>cases ho;exact ci_ (k:=1) HC.o (cl_ 1 d_) rfl H0_ rfl hI
   | 2,ho=>cases ho;exact dt_ HC.o rfl (bi_ (d':=dE) d_ (show (kEx _ 2).p w _ from H1_)) hI
   | 3,ho=>cases ho;exact rk_bs_05 rfl rfl (show (kExs _ dE 1).p w _ from H2_) d_ d_ (fun h=>absurd h d_) hI
   | 4,ho=>cases ho;exact bj_ (fun _ h=>h) A7 A2.o.1 A2.o.2 rfl (hout 2 d_) (show (kSt _ 0).p w _ from H3_) hI
   | q+5,ho=>exact n_ ho
  exact vy_
 ·go_upto_region 17 with fail;refine bg_ (X:=(x1 X1)) (Inv:=(InvR d b lp X1 Z1 w w (ah_ (0)) pS)) (ks:=fun i=>([(kStr _),(kV _ (pt b)),(kEx _ 2),(kExs _ dE 1),(kSt _ 0),(kAny _)]:List (SK (x1 X1))).getD i (kAny _)) k_ (A5.o _ A3.o A6.o) ?_ ?_
  ·intro i o ho a w hI hout hin
   match i,ho with
   | 0,ho=>cases ho;exact bp_ (.inl rfl) (show (kStr _).p w _ from ⟨s,hout 3 d_,hs⟩) hI
   | 1,ho=>cases ho;exact M0_
   | 2,ho=>cases ho;exact ci_ (k:=1) HC.o (cl_ 1 d_) rfl H1_ rfl hI
   | 3,ho=>cases ho;exact dt_ HC.o rfl (bi_ (d':=dE) d_ (show (kEx _ 2).p w _ from H2_)) hI
   | 4,ho=>cases ho;exact rk_bs_015 rfl rfl (show (kStr _).p w _ from H0_) (show (kExs _ dE 1).p w _ from H3_) d_ d_ (fun h=>absurd h d_) hI
   | 5,ho=>cases ho;exact bj_ (fun _ h=>h) A7 A2.o.1 A2.o.2 rfl (hout 2 d_) (show (kSt _ 0).p w _ from H4_) hI
   | q+6,ho=>exact n_ ho
  exact vy_
 ·go_upto_region 19 with fail;refine bg_ (X:=(x1 X1)) (Inv:=(InvR d b lp X1 Z1 w w (ah_ (0)) pS)) (ks:=fun i=>([(kEx _ 0),(kV _ (pt b)),(kEx _ 2),(kEx _ 3),(kSt _ 0),(kAny _)]:List (SK (x1 X1))).getD i (kAny _)) k_ (A5.o _ A3.o A6.o) ?_ ?_
  ·intro i o ho a w hI hout hin
   match i,ho with
   | 0,ho=>cases ho;exact eq_ HC.o rfl ⟨_,rfl,d_⟩ hI
   | 1,ho=>cases ho;exact M0_
   | 2,ho=>cases ho;exact ci_ (k:=1) HC.o (cl_ 1 d_) rfl H1_ rfl hI
   | 3,ho=>cases ho;exact rk_bin HC.o rfl ⟨_,rfl⟩ (bi_ (d':=2) d_ (show (kEx _ 0).p w _ from H0_)) (show (kEx _ 2).p w _ from H2_) hI
   | 4,ho=>cases ho;exact dk_ HC.o rfl ⟨_,rfl,d_⟩ (bi_ (d':=dE) d_ (show (kEx _ 3).p w _ from H3_)) hI
   | 5,ho=>cases ho;exact bj_ (fun _ h=>h) A7 A2.o.1 A2.o.2 rfl (hout 2 d_) (show (kSt _ 0).p w _ from H4_) hI
   | q+6,ho=>exact n_ ho
  exact vy_
 ·go_upto_region 22 with fail;refine bg_ (X:=(x1 X1)) (Inv:=(InvR d b lp X1 Z1 w w (ah_ (0)) pS)) (ks:=fun i=>([(kV _ (pt b)),(kStr _),(kSt _ 0),(kAny _)]:List (SK (x1 X1))).getD i (kAny _)) k_ (A5.o _ A3.o A6.o) ?_ ?_
  ·intro i o ho a w hI hout hin
   match i,ho with
   | 0,ho=>cases ho;exact M0_
   | 1,ho=>cases ho;exact bp_ (.inl rfl) (show (kStr _).p w _ from ⟨s,hout 3 d_,hs⟩) hI
   | 2,ho=>cases ho;exact rk_callm HC.o rfl H0_ (show (kStr _).p w _ from H1_) hI
   | 3,ho=>cases ho;exact bj_ (fun _ h=>h) A7 A2.o.1 A2.o.2 rfl (hout 2 d_) (show (kSt _ 0).p w _ from H2_) hI
   | q+4,ho=>exact n_ ho
  exact vy_
 ·go_upto_region 25 with fail;refine bg_ (X:=(x1 X1)) (Inv:=(InvR d b lp X1 Z1 w w (ah_ (0)) pS)) (ks:=fun i=>([(kStr _),(kV _ (pt b)),(kEx _ 2),(kSt _ 0),(kAny _)]:List (SK (x1 X1))).getD i (kAny _)) k_ (A5.o _ A3.o A6.o) ?_ ?_
  ·intro i o ho a w hI hout hin
   match i,ho with
   | 0,ho=>cases ho;exact bp_ (.inl rfl) (show (kStr _).p w _ from ⟨s,hout 3 d_,hs⟩) hI
   | 1,ho=>cases ho;exact M0_
   | 2,ho=>cases ho;exact rk_pointer HC.o rfl H1_ hI
   | 3,ho=>cases ho;exact dk_ HC.o rfl (show (kStr _).p w _ from H0_) (bi_ (d':=dE) d_ (show (kEx _ 2).p w _ from H2_)) hI
   | 4,ho=>cases ho;exact bj_ (fun _ h=>h) A7 A2.o.1 A2.o.2 rfl (hout 2 d_) (show (kSt _ 0).p w _ from H3_) hI
   | q+5,ho=>exact n_ ho
  exact vy_
 ·go_upto_region 24 with fail;refine do_ (X:=(x1 X1)) (Inv:=(InvR d b lp X1 Z1 w w (ah_ (0)) pS)) (ks:=fun i=>([(kInts _ 2),(kV _ (pt b)),(kV _ (pt b)),(kV _ (pt b)),(kV _ (pt d)),(kNat _ 2),(kPInt _),(kKind _),(kV _ (pt b)),(kEx _ 2),(kExs _ dE 1),(kSt _ 0),(kAny _)]:List (SK (x1 X1))).getD i (kAny _)) rfl k_ (A5.o _ (A3.o.below (Below.drew (b_))) (A6.o.az_ (Below.drew (b_)))) ?_ ?_
  ·intro i o ho a w hI hout hin
   match i,ho with
   | 0,ho=>cases ho;exact rk_bsi2 HC.o rfl d_ d_ hI
   | 1,ho=>cases ho;exact M0_
   | 2,ho=>cases ho;exact cd_ rfl H1_ hI
   | 3,ho=>cases ho;exact cc_ d_ rfl H2_ hI
   | 4,ho=>cases ho;exact bm_ HC.o rfl H3_ hI
   | 5,ho=>cases ho;exact br_ (n:=2) HC.o rfl H4_ rfl d_ d_ hI
   | 6,ho=>cases ho;exact rk_idxi (n:=2) rfl (show (kInts _ 2).p w _ from H0_) (show (kNat _ 2).p w _ from H5_) hI
   | 7,ho=>cases ho;exact rk_lint rfl (show (kPInt _).p w _ from H6_) hI
   | 8,ho=>cases ho;exact M0_
   | 9,ho=>cases ho;exact ci_ (k:=1) HC.o (cl_ 1 d_) rfl H8_ rfl hI
   | 10,ho=>cases ho;exact dt_ HC.o rfl (bi_ (d':=dE) d_ (show (kEx _ 2).p w _ from H9_)) hI
   | 11,ho=>cases ho;obtain ⟨q,hq,Am,An,Ao⟩:=(show (kKind _).p w _ from H7_);exact rk_bs_05 rfl hq (show (kExs _ dE 1).p w _ from H10_) (fun h=>absurd h An) (fun h=>absurd h Ao) (fun h=>absurd h Am) hI
   | 12,ho=>cases ho;exact bj_ (fun _ h=>h) A7 A2.o.1 A2.o.2 rfl (hout 2 d_) (show (kSt _ 0).p w _ from H11_) hI
   | q+13,ho=>exact n_ ho
  exact vy_
 go_upto_region 25 with fail;refine bg_ (X:=(x1 X1)) (Inv:=(InvR d b lp X1 Z1 w w (ah_ (0)) pS)) (ks:=fun i=>([(kStr _),(kV _ (pt b)),(kEx _ 2),(kSt _ 0),(kAny _)]:List (SK (x1 X1))).getD i (kAny _)) k_ (A5.o _ A3.o A6.o) ?_ ?_
 ·intro i o ho a w hI hout hin
  match i,ho with
  | 0,ho=>cases ho;exact bp_ (.inl rfl) (show (kStr _).p w _ from ⟨s,hout 3 d_,hs⟩) hI
  | 1,ho=>cases ho;exact M0_
  | 2,ho=>cases ho;exact rk_pointer HC.o rfl H1_ hI
  | 3,ho=>cases ho;exact dk_ HC.o rfl (show (kStr _).p w _ from H0_) (bi_ (d':=dE) d_ (show (kEx _ 2).p w _ from H2_)) hI
  | 4,ho=>cases ho;exact bj_ (fun _ h=>h) A7 A2.o.1 A2.o.2 rfl (hout 2 d_) (show (kSt _ 0).p w _ from H3_) hI
  | q+5,ho=>exact n_ ho
 exact vy_
theorem statement_step (kd:Int) (s f:ByteArray) (n op:Int) (A B C:OA) (m c m1 c1 m2 c2:Nat) (X:NP) (K:Nat) (hK:K<=900000000) (d:Nat) (w:World) (hp:SlP w X K pE (be_ d) A m c) (hsz:s.size<=100/\f.size<=100) :
  Calls prog 202 #[.agg #[i_ kd,.string s,.string f,i_ n,i_ op,.slice A m c,.slice B m1 c1,.slice C m2 c2]] w fun e w'=>RB e/\Below w w w':=by
 obtain ⟨W,hW,A7,Ae,B0⟩:=ag_ w [i_ kd,.string s,.string f,i_ n,i_ op,.slice A m c,.slice B m1 c1,.slice C m2 c2] 212;have KC:=h_ (∀ w',Below W W w'->StB w' w kd s f n op A B C m c m1 c1 m2 c2) (fun w' hb =>
  ⟨(B0.below hb).2.1 0 _ rfl,(B0.below hb).2.1 1 _ rfl,(B0.below hb).2.1 2 _ rfl,(B0.below hb).2.1 3 _ rfl,(B0.below hb).2.1 4 _ rfl,(B0.below hb).2.1 5 _ rfl,(B0.below hb).2.1 6 _ rfl,(B0.below hb).2.1 7 _ rfl⟩)
 have HW:=q_ A7;have HP:=q_ hp;have HS:=q_ hsz;have Ah:=hp.sl.le;obtain ⟨x0,x1,x2,x3,x4,x5,x6,x7⟩:=KC.o W (b_);clear B0 A7 hp hsz;go_enter func202,ntmps202;go_upto_region 1 with fail;rw [<-hW];clear hW;go_wp2_with fail;refine (parts_any kd W).mono ?_;rintro e W1 ⟨⟨q3,b4,b5,b6,b7,b8,b9,Ab,rfl⟩,A5⟩;have H1:=q_ A5;clear x0 x1 x2 x3 x4 x5 x6 x7 A5;obtain ⟨x0,x1,x2,x3,x4,x5,x6,x7⟩:=KC.o W1 H1.o;cases Ab
 case false =>
  go_wp2;go_ret;exact ⟨⟨_,rfl⟩,zf_⟩
 go_upto_region 2 with fail;go_cut [45] (fun v wx=>∃ b:Bool,v=.bool b/\Hid (wx=W1))
 case first =>
  go_wp2;all_goals
   go_meet;exact ⟨_,rfl,q_ rfl⟩
 rename World=>wx
 obtain ⟨b,rfl,A9⟩:=hcut;have hw:=A9.o;subst hw;clear A9;cases b
 case true =>
  go_wp2;go_ret;exact ⟨⟨_,rfl⟩,zf_⟩
 go_upto_region 5 with fail;go_loopw [49] (fun i wr=>∃ k:Nat,k<=m/\i=i_ k/\Hid (Below wx wx wr)) (fun i _=>m - (intOf i).toNat)
 case atStart=>exact ⟨0,o_,rfl,q_ (b_)⟩
 obtain ⟨k,Ag,rfl,HR⟩:=hrel;have A2:=q_ (H1.o.trans (HR.o.mono H1.o.size));have A1:=q_ (HW.o.trans (A2.o.mono HW.o.size));have Ai:(w:Nat)<=wr:=A1.o.size;have Aj:(wx:Nat)<=wr:=HR.o.size;clear x0 x1 x2 x3 x4 x5 x6 x7;by_cases hlt:k<m
 ·have A3:(k:Int)<(m:Int):=by omega
  obtain ⟨g,o,us,rfl,hg,hX,hu,A8,hc⟩:=HP.o.el hlt;have Aa:=q_ A8;obtain ⟨Ac,n',s',Ad,A',m',c',rfl,_,_,_⟩:=A8;rw [ea_] at hc;have A0:∀ j,wr.cell? (f_ g j)=w.cell? (f_ g j):=fun j=>belc A1.o hg
  have Af:g<wr:=lt_ hg A1.o.size;have k0:wr.cell? ⟨g,o+k*5,none⟩=some (i_ Ac):=(A0 _).trans (hc 0 _ rfl);have k1:wr.cell? ⟨g,o+k*5+1,none⟩=some (i_ n'):=(A0 _).trans (hc 1 _ rfl);have k2:wr.cell? ⟨g,o+k*5+2,none⟩=some (.string s'):=(A0 _).trans (hc 2 _ rfl);have k3:wr.cell? ⟨g,o+k*5+3,none⟩=some (i_ Ad):=(A0 _).trans (hc 3 _ rfl);have k4:wr.cell? ⟨g,o+k*5+4,none⟩=some (.slice A' m' c'):=(A0 _).trans (hc 4 _ rfl);have HU:=q_ (hu.up (Kp.of_below A1.o) (l_));clear A0 hc hu;go_wp2_with (go_at_call 208;refine (Expr_any X K hK d _ _ (HU.o.up (Kp.of_below (bel (b_))) (l_)) Aa.o).mono ?_;rintro e w1 ⟨⟨r,rfl⟩,hb⟩;have A4:=h_ (Below wx wx w1) (Below.trans (b:=_) (bel HR.o) (hb.mono (by simp <;> (have:=HR.o.size;omega)))));all_goals first
   | (go_ret;exact ⟨⟨_,rfl⟩,(by repeat (first | (with_reducible exact (HW.o.trans ((H1.o.trans (A4.o.mono H1.o.size)).mono HW.o.size))) | (with_reducible refine Below.drew ?_) | (with_reducible refine below_drewN ?_ _) | (with_reducible refine Below.setCell ?_ ?_ _;rotate_left;(first | omega | (simp <;> omega))) | (with_reducible refine Below.alloc ?_ ?_ _;rotate_left;(first | omega | (simp <;> omega)))))⟩)
   | (go_roundw
      case rel=>exact ⟨k+1,o_,za_,A4⟩
      case measure=>exact me_)
 have A3:¬(k:Int)<(m:Int):=by omega
 obtain ⟨x0,x1,x2,x3,x4,x5,x6,x7⟩:=KC.o wr A2.o;go_wp2_with fail;refine (Name_any op wr).mono ?_;rintro e W2 ⟨⟨sx,bo,rfl⟩,A6⟩;have H2:=q_ (A2.o.trans (A6.mono A2.o.size));clear x0 x1 x2 x3 x4 x5 x6 x7 A6;obtain ⟨x0,x1,x2,x3,x4,x5,x6,x7⟩:=KC.o W2 H2.o;clear x0 x1 x2 x3 x4 x5 x6 x7;go_upto_region 11 with fail;refine wp_region_list ?_;simp only [];refine abs_wp (fun a w'=>St 150 w [(14,0,none),(9,0,none),(8,0,none),(7,0,none),(6,0,none),(5,0,none),(4,0,none),(1,4,none)] a/\Below W W w') ⟨?_,H2.o⟩ (fun a w ⟨H,HI⟩=>?_)
 ·refine St.know ?_ 14 ⟨_,rfl⟩;refine St.know ?_ 9 ⟨_,rfl⟩;refine St.know ?_ 8 ⟨_,rfl⟩;refine St.know ?_ 7 ⟨_,rfl⟩;refine St.know ?_ 6 ⟨_,rfl⟩;refine St.know ?_ 5 ⟨_,rfl⟩;refine St.know ?_ 4 ⟨_,rfl⟩;refine St.know ?_ 1 rfl;exact St.start rfl rfl
 refine st_u 0 H rfl rfl d_ d_ (bh_ (.inl rfl) (H.get (t:=4) d_) HI) (fun a w H HI=>?_);refine st_u 0 H rfl rfl d_ d_ (bh_ (.inl rfl) (H.get (t:=63) d_) HI) (fun a w H HI=>?_);refine st_g 5 H HI rfl rfl d_ d_ rfl d_ d_ (fun hw=>dp_ (f:=1) rfl d_ (H.get (t:=1) d_) HI) (fun a w H HI=>?_);refine st_g 2 H HI rfl rfl d_ d_ rfl d_ d_ (fun hw=>es_ (f:=1) d_ rfl (H.getg (t:=65) d_ hw) (KC.o _ HI).y1 ⟨_,rfl,HS.o.1⟩ HI) (fun a w H HI=>?_);refine st_g 0 H HI rfl rfl d_ d_ rfl d_ d_ (fun hw=>rn_name rfl (H.getg (t:=66) d_ hw) (fun w' hb=>HI.trans (hb.mono HI.size))) (fun a w H HI=>?_);refine st_u 0 H rfl rfl d_ d_ (bz_ rfl (H.get (t:=64) d_) (fun hc=>(H.getg (t:=67) d_ hc)) (fun _=>⟨_,rfl⟩) HI) (fun a w H HI=>?_);refine st_u 0 H rfl rfl d_ d_ (bh_ (.inl rfl) (H.get (t:=68) d_) HI) (fun a w H HI=>?_);refine st_g 0 H HI rfl rfl d_ d_ rfl d_ d_ (fun hw=>bh_ (.inl rfl) (H.get (t:=4) d_) HI) (fun a w H HI=>?_);refine st_g 0 H HI rfl rfl d_ d_ rfl d_ d_ (fun hw=>rn_not rfl (H.getg (t:=70) d_ hw) HI) (fun a w H HI=>?_);refine st_g 0 H HI rfl rfl d_ d_ rfl d_ d_ (fun hw=>bh_ (.inl rfl) (H.getg (t:=71) d_ hw) HI) (fun a w H HI=>?_);refine st_g 5 H HI rfl rfl d_ d_ rfl d_ d_ (fun hw=>dp_ (f:=1) rfl d_ (H.get (t:=1) d_) HI) (fun a w H HI=>?_);refine st_g 2 H HI rfl rfl d_ d_ rfl d_ d_ (fun hw=>es_ (f:=1) d_ rfl (H.getg (t:=73) d_ hw) (KC.o _ HI).y1 ⟨_,rfl,HS.o.1⟩ HI) (fun a w H HI=>?_);refine st_g 0 H HI rfl rfl d_ d_ rfl d_ d_ (fun hw=>rn_eqs rfl (H.getg (t:=74) d_ hw) ⟨_,rfl,d_⟩ HI) (fun a w H HI=>?_);refine st_g 0 H HI rfl rfl d_ d_ rfl d_ d_ (fun hw=>bz_ rfl (H.getg (t:=72) d_ hw) (fun hc=>(H.getg (t:=75) d_ hc)) (fun _=>⟨_,rfl⟩) HI) (fun a w H HI=>?_);refine st_u 0 H rfl rfl d_ d_ (bz_ rfl (H.get (t:=69) d_) (fun _=>⟨_,rfl⟩) (fun hc=>(H.getg (t:=76) d_ hc)) HI) (fun a w H HI=>?_);refine st_u 0 H rfl rfl d_ d_ (bh_ (.inl rfl) (H.get (t:=77) d_) HI) (fun a w H HI=>?_);refine st_g 0 H HI rfl rfl d_ d_ rfl d_ d_ (fun hw=>bh_ (.inl rfl) (H.get (t:=5) d_) HI) (fun a w H HI=>?_);refine st_g 0 H HI rfl rfl d_ d_ rfl d_ d_ (fun hw=>bh_ (.inl rfl) (H.getg (t:=79) d_ hw) HI) (fun a w H HI=>?_);refine st_g 6 H HI rfl rfl d_ d_ rfl d_ d_ (fun hw=>dp_ (f:=2) rfl d_ (H.get (t:=1) d_) HI) (fun a w H HI=>?_);refine st_g 2 H HI rfl rfl d_ d_ rfl d_ d_ (fun hw=>es_ (f:=2) d_ rfl (H.getg (t:=81) d_ hw) (KC.o _ HI).y2 ⟨_,rfl,HS.o.2⟩ HI) (fun a w H HI=>?_);refine st_g 0 H HI rfl rfl d_ d_ rfl d_ d_ (fun hw=>rn_name rfl (H.getg (t:=82) d_ hw) (fun w' hb=>HI.trans (hb.mono HI.size))) (fun a w H HI=>?_);refine st_g 0 H HI rfl rfl d_ d_ rfl d_ d_ (fun hw=>bz_ rfl (H.getg (t:=80) d_ hw) (fun hc=>(H.getg (t:=83) d_ hc)) (fun _=>⟨_,rfl⟩) HI) (fun a w H HI=>?_);refine st_g 0 H HI rfl rfl d_ d_ rfl d_ d_ (fun hw=>bh_ (.inl rfl) (H.getg (t:=84) d_ hw) HI) (fun a w H HI=>?_);refine st_g 0 H HI rfl rfl d_ d_ rfl d_ d_ (fun hw=>bh_ (.inl rfl) (H.get (t:=5) d_) HI) (fun a w H HI=>?_);refine st_g 0 H HI rfl rfl d_ d_ rfl d_ d_ (fun hw=>rn_not rfl (H.getg (t:=86) d_ hw) HI) (fun a w H HI=>?_)
 refine st_g 0 H HI rfl rfl d_ d_ rfl d_ d_ (fun hw=>bh_ (.inl rfl) (H.getg (t:=87) d_ hw) HI) (fun a w H HI=>?_);refine st_g 6 H HI rfl rfl d_ d_ rfl d_ d_ (fun hw=>dp_ (f:=2) rfl d_ (H.get (t:=1) d_) HI) (fun a w H HI=>?_);refine st_g 2 H HI rfl rfl d_ d_ rfl d_ d_ (fun hw=>es_ (f:=2) d_ rfl (H.getg (t:=89) d_ hw) (KC.o _ HI).y2 ⟨_,rfl,HS.o.2⟩ HI) (fun a w H HI=>?_);refine st_g 0 H HI rfl rfl d_ d_ rfl d_ d_ (fun hw=>rn_eqs rfl (H.getg (t:=90) d_ hw) ⟨_,rfl,d_⟩ HI) (fun a w H HI=>?_);refine st_g 0 H HI rfl rfl d_ d_ rfl d_ d_ (fun hw=>bz_ rfl (H.getg (t:=88) d_ hw) (fun hc=>(H.getg (t:=91) d_ hc)) (fun _=>⟨_,rfl⟩) HI) (fun a w H HI=>?_);refine st_g 0 H HI rfl rfl d_ d_ rfl d_ d_ (fun hw=>bz_ rfl (H.getg (t:=85) d_ hw) (fun _=>⟨_,rfl⟩) (fun hc=>(H.getg (t:=92) d_ hc)) HI) (fun a w H HI=>?_);refine st_u 0 H rfl rfl d_ d_ (bz_ rfl (H.get (t:=78) d_) (fun hc=>(H.getg (t:=93) d_ hc)) (fun _=>⟨_,rfl⟩) HI) (fun a w H HI=>?_);refine st_u 0 H rfl rfl d_ d_ (bh_ (.inl rfl) (H.get (t:=94) d_) HI) (fun a w H HI=>?_);refine st_g 0 H HI rfl rfl d_ d_ rfl d_ d_ (fun hw=>bh_ (.inl rfl) (H.get (t:=6) d_) HI) (fun a w H HI=>?_);refine st_g 0 H HI rfl rfl d_ d_ rfl d_ d_ (fun hw=>bh_ (.inl rfl) (H.getg (t:=96) d_ hw) HI) (fun a w H HI=>?_);refine st_g 7 H HI rfl rfl d_ d_ rfl d_ d_ (fun hw=>dp_ (f:=3) rfl d_ (H.get (t:=1) d_) HI) (fun a w H HI=>?_);refine st_g 1 H HI rfl rfl d_ d_ rfl d_ d_ (fun hw=>es_ (f:=3) d_ rfl (H.getg (t:=98) d_ hw) (KC.o _ HI).y3 ⟨_,rfl⟩ HI) (fun a w H HI=>?_);refine st_g 0 H HI rfl rfl d_ d_ rfl d_ d_ (fun hw=>rn_cmp d_ d_ rfl (H.getg (t:=99) d_ hw) ⟨_,rfl⟩ HI) (fun a w H HI=>?_);refine st_g 0 H HI rfl rfl d_ d_ rfl d_ d_ (fun hw=>bz_ rfl (H.getg (t:=97) d_ hw) (fun hc=>(H.getg (t:=100) d_ hc)) (fun _=>⟨_,rfl⟩) HI) (fun a w H HI=>?_);refine st_g 0 H HI rfl rfl d_ d_ rfl d_ d_ (fun hw=>bh_ (.inl rfl) (H.getg (t:=101) d_ hw) HI) (fun a w H HI=>?_);refine st_g 7 H HI rfl rfl d_ d_ rfl d_ d_ (fun hw=>dp_ (f:=3) rfl d_ (H.get (t:=1) d_) HI) (fun a w H HI=>?_);refine st_g 1 H HI rfl rfl d_ d_ rfl d_ d_ (fun hw=>es_ (f:=3) d_ rfl (H.getg (t:=103) d_ hw) (KC.o _ HI).y3 ⟨_,rfl⟩ HI) (fun a w H HI=>?_);refine st_g 0 H HI rfl rfl d_ d_ rfl d_ d_ (fun hw=>rn_cmp d_ d_ rfl (H.getg (t:=104) d_ hw) ⟨_,rfl⟩ HI) (fun a w H HI=>?_);refine st_g 0 H HI rfl rfl d_ d_ rfl d_ d_ (fun hw=>bz_ rfl (H.getg (t:=102) d_ hw) (fun hc=>(H.getg (t:=105) d_ hc)) (fun _=>⟨_,rfl⟩) HI) (fun a w H HI=>?_);refine st_g 0 H HI rfl rfl d_ d_ rfl d_ d_ (fun hw=>bh_ (.inl rfl) (H.getg (t:=106) d_ hw) HI) (fun a w H HI=>?_);refine st_g 0 H HI rfl rfl d_ d_ rfl d_ d_ (fun hw=>bh_ (.inl rfl) (H.get (t:=6) d_) HI) (fun a w H HI=>?_);refine st_g 0 H HI rfl rfl d_ d_ rfl d_ d_ (fun hw=>rn_not rfl (H.getg (t:=108) d_ hw) HI) (fun a w H HI=>?_);refine st_g 0 H HI rfl rfl d_ d_ rfl d_ d_ (fun hw=>bh_ (.inl rfl) (H.getg (t:=109) d_ hw) HI) (fun a w H HI=>?_);refine st_g 7 H HI rfl rfl d_ d_ rfl d_ d_ (fun hw=>dp_ (f:=3) rfl d_ (H.get (t:=1) d_) HI) (fun a w H HI=>?_)
 refine st_g 1 H HI rfl rfl d_ d_ rfl d_ d_ (fun hw=>es_ (f:=3) d_ rfl (H.getg (t:=111) d_ hw) (KC.o _ HI).y3 ⟨_,rfl⟩ HI) (fun a w H HI=>?_);refine st_g 0 H HI rfl rfl d_ d_ rfl d_ d_ (fun hw=>rn_cmp d_ d_ rfl (H.getg (t:=112) d_ hw) ⟨_,rfl⟩ HI) (fun a w H HI=>?_);refine st_g 0 H HI rfl rfl d_ d_ rfl d_ d_ (fun hw=>bz_ rfl (H.getg (t:=110) d_ hw) (fun hc=>(H.getg (t:=113) d_ hc)) (fun _=>⟨_,rfl⟩) HI) (fun a w H HI=>?_);refine st_g 0 H HI rfl rfl d_ d_ rfl d_ d_ (fun hw=>bz_ rfl (H.getg (t:=107) d_ hw) (fun _=>⟨_,rfl⟩) (fun hc=>(H.getg (t:=114) d_ hc)) HI) (fun a w H HI=>?_);refine st_u 0 H rfl rfl d_ d_ (bz_ rfl (H.get (t:=95) d_) (fun hc=>(H.getg (t:=115) d_ hc)) (fun _=>⟨_,rfl⟩) HI) (fun a w H HI=>?_);refine st_u 0 H rfl rfl d_ d_ (bh_ (.inl rfl) (H.get (t:=116) d_) HI) (fun a w H HI=>?_);refine st_g 0 H HI rfl rfl d_ d_ rfl d_ d_ (fun hw=>bh_ (.inl rfl) (H.get (t:=7) d_) HI) (fun a w H HI=>?_);refine st_g 0 H HI rfl rfl d_ d_ rfl d_ d_ (fun hw=>bh_ (.inl rfl) (H.getg (t:=118) d_ hw) HI) (fun a w H HI=>?_);refine st_g 0 H HI rfl rfl d_ d_ rfl d_ d_ (fun hw=>bh_ (.inl rfl) (H.get (t:=14) d_) HI) (fun a w H HI=>?_);refine st_g 0 H HI rfl rfl d_ d_ rfl d_ d_ (fun hw=>bz_ rfl (H.getg (t:=119) d_ hw) (fun hc=>(H.getg (t:=120) d_ hc)) (fun _=>⟨_,rfl⟩) HI) (fun a w H HI=>?_);refine st_g 0 H HI rfl rfl d_ d_ rfl d_ d_ (fun hw=>bh_ (.inl rfl) (H.getg (t:=121) d_ hw) HI) (fun a w H HI=>?_);refine st_g 0 H HI rfl rfl d_ d_ rfl d_ d_ (fun hw=>bh_ (.inl rfl) (H.get (t:=7) d_) HI) (fun a w H HI=>?_);refine st_g 0 H HI rfl rfl d_ d_ rfl d_ d_ (fun hw=>rn_not rfl (H.getg (t:=123) d_ hw) HI) (fun a w H HI=>?_);refine st_g 0 H HI rfl rfl d_ d_ rfl d_ d_ (fun hw=>bh_ (.inl rfl) (H.getg (t:=124) d_ hw) HI) (fun a w H HI=>?_);refine st_g 8 H HI rfl rfl d_ d_ rfl d_ d_ (fun hw=>dp_ (f:=4) rfl d_ (H.get (t:=1) d_) HI) (fun a w H HI=>?_);refine st_g 1 H HI rfl rfl d_ d_ rfl d_ d_ (fun hw=>es_ (f:=4) d_ rfl (H.getg (t:=126) d_ hw) (KC.o _ HI).y4 ⟨_,rfl⟩ HI) (fun a w H HI=>?_);refine st_g 0 H HI rfl rfl d_ d_ rfl d_ d_ (fun hw=>rn_cmp d_ d_ rfl (H.getg (t:=127) d_ hw) ⟨_,rfl⟩ HI) (fun a w H HI=>?_);refine st_g 0 H HI rfl rfl d_ d_ rfl d_ d_ (fun hw=>bz_ rfl (H.getg (t:=125) d_ hw) (fun hc=>(H.getg (t:=128) d_ hc)) (fun _=>⟨_,rfl⟩) HI) (fun a w H HI=>?_);refine st_g 0 H HI rfl rfl d_ d_ rfl d_ d_ (fun hw=>bz_ rfl (H.getg (t:=122) d_ hw) (fun _=>⟨_,rfl⟩) (fun hc=>(H.getg (t:=129) d_ hc)) HI) (fun a w H HI=>?_);refine st_u 0 H rfl rfl d_ d_ (bz_ rfl (H.get (t:=117) d_) (fun hc=>(H.getg (t:=130) d_ hc)) (fun _=>⟨_,rfl⟩) HI) (fun a w H HI=>?_);refine st_u 0 H rfl rfl d_ d_ (bh_ (.inl rfl) (H.get (t:=131) d_) HI) (fun a w H HI=>?_);refine st_g 0 H HI rfl rfl d_ d_ rfl d_ d_ (fun hw=>bh_ (.inl rfl) (H.get (t:=8) d_) HI) (fun a w H HI=>?_);refine st_g 0 H HI rfl rfl d_ d_ rfl d_ d_ (fun hw=>bh_ (.inl rfl) (H.getg (t:=133) d_ hw) HI) (fun a w H HI=>?_);refine st_g 10 H HI rfl rfl d_ d_ rfl d_ d_ (fun hw=>dp_ (f:=6) rfl d_ (H.get (t:=1) d_) HI) (fun a w H HI=>?_)
 refine st_g 3 H HI rfl rfl d_ d_ rfl d_ d_ (fun hw=>es_ (f:=6) d_ rfl (H.getg (t:=135) d_ hw) (KC.o _ HI).y6 ⟨_,_,_,rfl⟩ HI) (fun a w H HI=>?_);refine st_g 1 H HI rfl rfl d_ d_ rfl d_ d_ (fun hw=>rn_len d_ rfl (H.getg (t:=136) d_ hw) HI) (fun a w H HI=>?_);refine st_g 0 H HI rfl rfl d_ d_ rfl d_ d_ (fun hw=>rn_cmp d_ d_ rfl (H.getg (t:=137) d_ hw) ⟨_,rfl⟩ HI) (fun a w H HI=>?_);refine st_g 0 H HI rfl rfl d_ d_ rfl d_ d_ (fun hw=>bz_ rfl (H.getg (t:=134) d_ hw) (fun _=>⟨_,rfl⟩) (fun hc=>(H.getg (t:=138) d_ hc)) HI) (fun a w H HI=>?_);refine st_u 0 H rfl rfl d_ d_ (bz_ rfl (H.get (t:=132) d_) (fun hc=>(H.getg (t:=139) d_ hc)) (fun _=>⟨_,rfl⟩) HI) (fun a w H HI=>?_);refine st_u 0 H rfl rfl d_ d_ (bh_ (.inl rfl) (H.get (t:=140) d_) HI) (fun a w H HI=>?_);refine st_g 0 H HI rfl rfl d_ d_ rfl d_ d_ (fun hw=>bh_ (.inl rfl) (H.get (t:=9) d_) HI) (fun a w H HI=>?_);refine st_g 0 H HI rfl rfl d_ d_ rfl d_ d_ (fun hw=>bh_ (.inl rfl) (H.getg (t:=142) d_ hw) HI) (fun a w H HI=>?_);refine st_g 11 H HI rfl rfl d_ d_ rfl d_ d_ (fun hw=>dp_ (f:=7) rfl d_ (H.get (t:=1) d_) HI) (fun a w H HI=>?_);refine st_g 3 H HI rfl rfl d_ d_ rfl d_ d_ (fun hw=>es_ (f:=7) d_ rfl (H.getg (t:=144) d_ hw) (KC.o _ HI).y7 ⟨_,_,_,rfl⟩ HI) (fun a w H HI=>?_);refine st_g 1 H HI rfl rfl d_ d_ rfl d_ d_ (fun hw=>rn_len d_ rfl (H.getg (t:=145) d_ hw) HI) (fun a w H HI=>?_);refine st_g 0 H HI rfl rfl d_ d_ rfl d_ d_ (fun hw=>rn_cmp d_ d_ rfl (H.getg (t:=146) d_ hw) ⟨_,rfl⟩ HI) (fun a w H HI=>?_);refine st_g 0 H HI rfl rfl d_ d_ rfl d_ d_ (fun hw=>bz_ rfl (H.getg (t:=143) d_ hw) (fun _=>⟨_,rfl⟩) (fun hc=>(H.getg (t:=147) d_ hc)) HI) (fun a w H HI=>?_);refine st_u 0 H rfl rfl d_ d_ (bz_ rfl (H.get (t:=141) d_) (fun hc=>(H.getg (t:=148) d_ hc)) (fun _=>⟨_,rfl⟩) HI) (fun a w H HI=>?_);refine st_u 0 H rfl rfl d_ d_ (bh_ (.inr rfl) (H.get (t:=149) d_) HI) (fun a w H HI=>?_);have h2:=H.get (t:=2) (k:=0) d_;obtain ⟨tm,df⟩:=a;obtain rfl:df=[]:=H.df;obtain ⟨x,hx⟩:=h2;have hx:tm.getD 2 undef=.bool x:=hx;refine wpList_nil ?_;go_wp2_with fail;refine bodyPost_ret (results_tmp zc_ _ _ _) rfl ?_;rw [hx];exact ⟨⟨_,rfl⟩,HW.o.trans (HI.mono HW.o.size)⟩
end Go.Proofs.YtfolidlmgfhkiaaGreat
