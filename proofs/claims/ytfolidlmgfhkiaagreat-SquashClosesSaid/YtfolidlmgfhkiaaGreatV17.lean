/- Lemmas on functions of the program, under the conditions that each states. -/
import Derived.Test.YtfolidlmgfhkiaaGreatV14
set_option linter.unusedVariables false
set_option linter.unusedSimpArgs false
set_option maxRecDepth 100000
set_option maxHeartbeats 8000000
namespace Go.Proofs.YtfolidlmgfhkiaaGreat
open Go.RowKit Go.Proofs.Tryz
section
variable {Q:Exit->Act->World->Prop} {X:XE} {Inv:World->Prop} {o:Oper} {a:Act} {w:World} {d b lp:Nat} {x y z:Operand}
theorem rk_simple (hC:IC d b lp X Inv) (ho:o.op=.call { callee:=.value (.func 196),args:=#[x],argTypes:=#[203] }) (hx:a.eval x=.pointer (some (a_ b))) (hI:Inv w):RnK prog Q X Inv (kSt X 0) o a w:=by
 have hf:a.eval (.func 196)=.func (.func 196) #[] #[]:=rfl;generalize hr:a.eval=r at hx hf;refine cm_ (f:=196) (args:=#[.pointer (some (a_ b))]) ys_ ((simple_ok d b lp X w (hC.ok w hI) hC.zx (hC.lt w hI)).mono ?_);exact v7_
theorem rk_list {deep D n:Nat} (hC:IC d b lp X Inv) (hL:LsOK deep D) (hlp:lp<=100+deep) (hn:n<=6) (ho:o.op=.call { callee:=.value (.func 113),args:=#[x,y,z],argTypes:=#[203,3,3] }) (hx:a.eval x=.pointer (some (a_ b))) (hy:a.eval y=i_ deep) (hz:a.eval z=i_ n) (hI:Inv w):RnK prog Q X Inv (kSts X D (n+1)) o a w:=by
 have hf:a.eval (.func 113)=.func (.func 113) #[] #[]:=rfl;generalize hr:a.eval=r at hx hy hz hf;refine cm_ (f:=113) (args:=#[.pointer (some (a_ b)),i_ deep,i_ n]) xi_ ((hL d b lp X n w hn hlp (hC.ok w hI) hC.zx (hC.lt w hI)).mono ?_);rintro e w' ⟨⟨A,m,c,rfl,hm,_,h⟩,hb⟩;exact ⟨_,rfl,hb.kp.mono (fun q _ hq=>hC.zx q hq),hC.ex w w' hI hb.kp,hC.up w w' hI hb.ok hb.kp,A,m,c,rfl,hm,h.o.slP (hC.lt w hI) o_⟩
end
theorem stmt_of3:StOK 3 0:=by
 intro d b lp X w Ai hM hz A8;obtain ⟨W,hW,A5,Ae,B0⟩:=af_ w [i_ 0,.string ⟨#[]⟩,.string ⟨#[]⟩,i_ 0,i_ 0,.slice none 0 0,.slice none 0 0,.slice none 0 0] 212;have A1:=hM.below A5;have Ag:b<w:=hM.lt;obtain ⟨X1,A0⟩:∃ X1:NP,X1=fun q=>X q\/q=w:=⟨_,rfl⟩
 obtain ⟨Z1,A2⟩:∃ Z1:NP,Z1=fun q=>Zm d b q\/q=w:=⟨_,rfl⟩
 have A7:=h_ (X1 w/\Z1 w) (⟨by rw [A0];exact .inr rfl,by rw [A2];exact .inr rfl⟩);have A4:InvR d b lp X1 Z1 w w (ah_ (0)) pS W:=⟨A1,.of_below A5,fun q hq=>by rw [A0] at hq;rcases hq with hq | hq;(have:=A8 q hq;omega);omega,_,B0,ec_ (SlP.nil _ _ _ _ _),pS_st x_ x_ x_ d_ d_⟩;have hC:IC d b lp (x1 X1) (InvR d b lp X1 Z1 w w (ah_ (0)) pS):=InvR.ic (fun _ _ _ h=>h) (fun q hq=>by rw [A0];exact .inl (hz q hq)) (fun q hq=>by rw [A2];exact .inl hq) hM.nz;have Ah:=h_ ((∀ q,X1 q->q<W)/\(∀ q,Zm d b q->X1 q)) (⟨A4.lt,fun q hq=>by rw [A0];exact .inl (hz q hq)⟩);have HC:=q_ hC;have Aa:=h_ (∀ w',Mk d b lp w'->Kp (Zm d b) W w'->InvR d b lp X1 Z1 w w (ah_ (0)) pS w') (fun w' h1 h2=>hC.up W w' A4 h1 h2);have A3:=h_ (∀ (a:Act) (w2:World),InvR d b lp X1 Z1 w w (ah_ (0)) pS w2->a.defers=[]->a.tmps.getD 4 undef=.pointer (some (a_ w))->bodyPost prog f166 (fun e w'=>RS X (0) e w'/\Md d b lp w w') .ret a w2) (fun a w2 hI A6 ha=>by
  obtain ⟨cs,g1,g2,g3⟩:=hI.bx
  obtain ⟨kd,s,f,n,op,A,B,C,m,c,c1,c2,rfl,_⟩:=g2.stmt0
  refine retC results166 ha underlying212 rfl (cs:=stL kd s f n op A m c B 0 c1 C 0 c2) isz8 g1.whole A6 ⟨⟨_,_,_,_,_,_,_,_,_,_,_,_,_,_,rfl,q_ ⟨g2.less (fun q _ hq=>by rw [A0];exact .inl hq),g3⟩⟩,hI.ok,hI.kp.mono (fun q hq A9=>?_)⟩
  rw [A2] at A9
  rcases A9 with h | h
  ·exact h
  omega)
 have c0:=A1.c0;have Af:=A1.lt;have HD:=q_ A1.dice;have Ad:=q_ A1;clear hM hz A8 B0 A5 A4 hC Ae A0 A2;go_enter func166,ntmps166;go_upto_region 1 with fail;rw [<-hW];clear hW;go_upto_region 2 with (go_at_call 26;refine (bn_ d 10 W HD.o d_ d_).mono ?_;rintro e w1 ⟨r,hr,rfl,ht,_⟩);have Ac:=q_ (Ad.o.thrown ht);have Ab:=q_ (ht.kp b);clear c0 Af ht;go_upto_region 3 with fail;refine be_ (X:=(x1 X1)) (Inv:=(InvR d b lp X1 Z1 w w (ah_ (0)) pS)) (ks:=fun i=>([(kV _ (pt b)),(kSt _ 0),(kAny _)]:List (SK (x1 X1))).getD i (kAny _)) k_ (Aa.o _ Ac.o Ab.o) ?_ ?_
 ·intro i o ho a w hI hout hin
  match i,ho with
  | 0,ho=>cases ho;exact M0_
  | 1,ho=>cases ho;exact rk_simple HC.o rfl H0_ hI
  | 2,ho=>cases ho;exact bi_ (fun _ h=>h) Ag A7.o.1 A7.o.2 rfl (hout 4 d_) (show (kSt _ 0).p w _ from H1_) hI
  | q+3,ho=>exact n_ ho
 intro a w2 hI hsz A6 hout Aj;go_wp2;exact A3.o a w2 hI A6 (hout 4 d_)
theorem stmt_lt (deep D:Nat) (hdeep:deep<=2) (hL:LsOK (deep+1) D):StOK deep (D+1):=by
 intro d b lp X w BH hM hz Bc;obtain ⟨W,hW,AY,Bn,B0⟩:=af_ w [i_ 0,.string ⟨#[]⟩,.string ⟨#[]⟩,i_ 0,i_ 0,.slice none 0 0,.slice none 0 0,.slice none 0 0] 212;have As:=hM.below AY;have Ax:b<w:=hM.lt;obtain ⟨X1,Ak⟩:∃ X1:NP,X1=fun q=>X q\/q=w:=⟨_,rfl⟩
 obtain ⟨Z1,AE⟩:∃ Z1:NP,Z1=fun q=>Zm d b q\/q=w:=⟨_,rfl⟩
 have A6:=h_ (X1 w/\Z1 w) (⟨by rw [Ak];exact .inr rfl,by rw [AE];exact .inr rfl⟩);have AP:InvR d b lp X1 Z1 w w (ah_ (D+1)) pS W:=⟨As,.of_below AY,fun q hq=>by rw [Ak] at hq;rcases hq with hq | hq;(have:=Bc q hq;omega);omega,_,B0,vts_st (SlP.nil _ _ _ _ _) (SlP.nil _ _ _ _ _) (SlP.nil _ _ _ _ _),pS_st x_ x_ x_ d_ d_⟩;have hC:IC d b lp (x1 X1) (InvR d b lp X1 Z1 w w (ah_ (D+1)) pS):=InvR.ic (fun _ _ _ h=>h) (fun q hq=>by rw [Ak];exact .inl (hz q hq)) (fun q hq=>by rw [AE];exact .inl hq) hM.nz;have AM:=h_ ((∀ q,X1 q->q<W)/\(∀ q,Zm d b q->X1 q)) (⟨AP.lt,fun q hq=>by rw [Ak];exact .inl (hz q hq)⟩);have HC:=q_ hC;have An:=h_ (∀ w',Mk d b lp w'->Kp (Zm d b) W w'->InvR d b lp X1 Z1 w w (ah_ (D+1)) pS w') (fun w' h1 h2=>hC.up W w' AP h1 h2);have A4:=h_ (∀ (a:Act) (w2:World),InvR d b lp X1 Z1 w w (ah_ (D+1)) pS w2->a.defers=[]->a.tmps.getD 4 undef=.pointer (some (a_ w))->bodyPost prog f166 (fun e w'=>RS X (D+1) e w'/\Md d b lp w w') .ret a w2) (fun a w2 hI A0 ha=>by
  obtain ⟨cs,g1,g2,g3⟩:=hI.bx
  obtain ⟨kd,s,f,n,op,A,B,C,m,c,m1,c1,m2,c2,rfl,_⟩:=g2.stmt
  refine retC results166 ha underlying212 rfl (cs:=stL kd s f n op A m c B m1 c1 C m2 c2) isz8 g1.whole A0 ⟨⟨_,_,_,_,_,_,_,_,_,_,_,_,_,_,rfl,q_ ⟨g2.less (fun q _ hq=>by rw [Ak];exact .inl hq),g3⟩⟩,hI.ok,hI.kp.mono (fun q hq Ay=>?_)⟩
  rw [AE] at Ay
  rcases Ay with h | h
  ·exact h
  omega)
 have c0:=As.c0;have A8:=As.lt;have HD:=q_ As.dice;have Bk:=q_ As;clear hM hz Bc B0 AY AP hC Bn Ak AE;have HL:=q_ hL;clear hL;go_enter func166,ntmps166;go_upto_region 1 with fail;rw [<-hW];clear hW;go_upto_region 2 with (go_at_call 26;refine (bn_ d 10 W HD.o d_ d_).mono ?_;rintro e w1 ⟨r,hr,rfl,ht,_⟩);have Ao:=q_ (Bk.o.thrown ht);have AI:=q_ (ht.kp b);clear c0 A8 ht;have BB:¬(3:Int)<=(deep:Int):=by omega
 have Aa:lp<=100+(deep+1):=by omega
 obtain ⟨B3,c1⟩:=Ao.o.c1;have A8:=Ao.o.lt;by_cases hl:B3<2
 ·skip
  go_upto_region 3 with fail;refine be_ (X:=(x1 X1)) (Inv:=(InvR d b lp X1 Z1 w w (ah_ (D+1)) pS)) (ks:=fun i=>([(kV _ (pt b)),(kSt _ 0),(kAny _)]:List (SK (x1 X1))).getD i (kAny _)) k_ (An.o _ Ao.o AI.o) ?_ ?_
  ·intro i o ho a w hI hout hin
   match i,ho with
   | 0,ho=>cases ho;exact M0_
   | 1,ho=>cases ho;exact rk_simple HC.o rfl H0_ hI
   | 2,ho=>cases ho;exact bi_ (fun _ h=>h) Ax A6.o.1 A6.o.2 rfl (hout 4 d_) (di_ (d':=D+1) o_ (show (kSt _ 0).p w _ from H1_)) hI
   | q+3,ho=>exact n_ ho
  exact ub_
 by_cases hk5:r<5
 ·have Aw:(r:Int)<5:=by omega
  go_upto_region 3 with fail;refine be_ (X:=(x1 X1)) (Inv:=(InvR d b lp X1 Z1 w w (ah_ (D+1)) pS)) (ks:=fun i=>([(kV _ (pt b)),(kSt _ 0),(kAny _)]:List (SK (x1 X1))).getD i (kAny _)) k_ (An.o _ Ao.o AI.o) ?_ ?_
  ·intro i o ho a w hI hout hin
   match i,ho with
   | 0,ho=>cases ho;exact M0_
   | 1,ho=>cases ho;exact rk_simple HC.o rfl H0_ hI
   | 2,ho=>cases ho;exact bi_ (fun _ h=>h) Ax A6.o.1 A6.o.2 rfl (hout 4 d_) (di_ (d':=D+1) o_ (show (kSt _ 0).p w _ from H1_)) hI
   | q+3,ho=>exact n_ ho
  exact ub_
 have Aw:¬(r:Int)<5:=by omega
 go_upto_region 4 with fail;clear c1 A8;go_cut [6] (fun v wx=>∃ s:ByteArray,v=.string s/\s.size<=100/\Hid (Mk d b lp wx)/\Hid (Kp (Zm d b) W wx))
 case first =>
  refine be_ (X:=⟨Zm d b,fun _=>True⟩) (Inv:=fun w2=>Mk d b lp w2/\Kp (Zm d b) W w2) (ks:=fun i=>([(bs_ ⟨Zm d b,fun _=>True⟩ (3)),(kV ⟨Zm d b,fun _=>True⟩ (pt b)),(kV ⟨Zm d b,fun _=>True⟩ (pt b)),(kV ⟨Zm d b,fun _=>True⟩ (.pointer (some (f_ b 2)))),(kV ⟨Zm d b,fun _=>True⟩ (i_ (lp:Nat))),(kNat ⟨Zm d b,fun _=>True⟩ (3)),(df_ ⟨Zm d b,fun _=>True⟩),(kStr ⟨Zm d b,fun _=>True⟩),(kStr ⟨Zm d b,fun _=>True⟩)]:List (SK ⟨Zm d b,fun _=>True⟩)).getD i (kAny ⟨Zm d b,fun _=>True⟩)) k_ ⟨Ao.o,AI.o⟩ ?_ ?_
  ·have HC:=h_ (IC d b lp ⟨Zm d b,fun _=>True⟩ (fun w2=>Mk d b lp w2/\Kp (Zm d b) W w2)) (⟨fun _ h=>h.1,fun _ h=>h,fun _ h=>h.1.zlt,fun _ _ h h1 h2=>⟨h1,h.2.trans h2⟩,fun _ _ _ _ h=>h⟩);intro i o ho a w hI hout hin
   match i,ho with
   | 0,ho=>cases ho;exact rk_bst3 HC.o rfl d_ d_ d_ hI
   | 1,ho=>cases ho;exact M0_
   | 2,ho=>cases ho;exact bz_ rfl H1_ hI
   | 3,ho=>cases ho;exact ca_ d_ rfl H2_ hI
   | 4,ho=>cases ho;exact rk_load (.inl rfl) rfl H3_ (HC.o.ok w hI).c2 rfl hI
   | 5,ho=>cases ho;exact rk_rem rfl H4_ hI
   | 6,ho=>cases ho;exact rk_idx (n:=3) rfl (show (bs_ _ 3).p w _ from H0_) (show (kNat _ 3).p w _ from H5_) hI
   | 7,ho=>cases ho;exact eg_ rfl (show (df_ _).p w _ from H6_) hI
   | 8,ho=>cases ho;exact bl_ (.inr rfl) (show (kStr _).p w _ from H7_) hI
   | q+9,ho=>exact n_ ho
  intro a w2 hI hsz A0 hout A3;obtain ⟨gs,A9⟩:∃ gs:Nat->Value,∀ t,a.tmps.getD t undef=gs t:=⟨_,fun _=>rfl⟩;obtain ⟨s,hs,hz⟩:(kStr ⟨Zm d b,fun _=>True⟩).p w2 (gs 6):=by rw [<-A9];exact A3 8 _ _ rfl rfl
  have ha:=dj_ (D:=[28,29,30,31,32,33,34,35,6]) hsz A0 t_ hout A9;simp only [List.foldl_cons,List.foldl_nil,Act.put,List.setIfInBounds_toArray,List.set_cons_zero,List.set_cons_succ] at ha;subst ha;go_wp2;go_meet;first | exact ⟨s,rfl,hz,q_ hI.1,q_ hI.2⟩ | exact ⟨s,hs,hz,q_ hI.1,q_ hI.2⟩
 case rest =>
 rename World=>w4
 obtain ⟨s,rfl,hs,Aj,AJ⟩:=hcut;have Au:r=5\/r=6\/r=7\/r=8\/r=9:=by omega
 rcases Au with rfl | rfl | h789
 ·skip
  go_upto_region 7 with fail;refine be_ (X:=(x1 X1)) (Inv:=(InvR d b lp X1 Z1 w w (ah_ (D+1)) pS)) (ks:=fun i=>([(kV _ (pt b)),(kEx _ 3),(kExs _ dE 1),(kV _ (pt b)),(kV _ (i_ (deep:Nat))),(kV _ (i_ ((deep)+1:Nat))),(kSts _ D 3),(kV _ (pt b)),(kV _ (i_ (deep:Nat))),(kV _ (i_ ((deep)+1:Nat))),(kSts _ D 2),(kSt _ ((D)+1)),(kAny _)]:List (SK (x1 X1))).getD i (kAny _)) k_ (An.o _ Aj.o AJ.o) ?_ ?_
  ·intro i o ho a w hI hout hin
   match i,ho with
   | 0,ho=>cases ho;exact M0_
   | 1,ho=>cases ho;exact ch_ (k:=2) HC.o (ck_ 2 d_) rfl H0_ rfl hI
   | 2,ho=>cases ho;exact dq_ HC.o rfl (bg_ (d':=dE) zn_ (show (kEx _ 3).p w _ from H1_)) hI
   | 3,ho=>cases ho;exact M0_
   | 4,ho=>cases ho;exact bl_ (.inl rfl) (show (kV _ (i_ (deep:Nat))).p w _ from (hout 1 d_)) hI
   | 5,ho=>cases ho;exact rk_inc o_ rfl H4_ hI
   | 6,ho=>cases ho;exact rk_list (n:=2) HC.o HL.o Aa d_ rfl H3_ H5_ rfl hI
   | 7,ho=>cases ho;exact M0_
   | 8,ho=>cases ho;exact bl_ (.inl rfl) (show (kV _ (i_ (deep:Nat))).p w _ from (hout 1 d_)) hI
   | 9,ho=>cases ho;exact rk_inc o_ rfl H8_ hI
   | 10,ho=>cases ho;exact rk_list (n:=1) HC.o HL.o Aa d_ rfl H7_ H9_ rfl hI
   | 11,ho=>cases ho;exact rk_bs_0567 rfl rfl (show (kExs _ dE 1).p w _ from H2_) (show (kSts _ D 3).p w _ from H6_) (show (kSts _ D 2).p w _ from H10_) d_ d_ (fun h=>absurd h d_) hI
   | 12,ho=>cases ho;exact bi_ (fun _ h=>h) Ax A6.o.1 A6.o.2 rfl (hout 4 d_) (di_ (d':=D+1) o_ (show (kSt _ ((D)+1)).p w _ from H11_)) hI
   | q+13,ho=>exact n_ ho
  exact ub_
 ·skip
  go_upto_region 9 with fail;refine dl_ (X:=(x1 X1)) (Inv:=(InvR d b lp X1 Z1 w w (ah_ (D+1)) pS)) (ks:=fun i=>([(bs_ _ 5),(kV _ (pt b)),(kV _ (pt b)),(kV _ (pt b)),(kV _ (pt d)),(kNat _ 3),(df_ _),(kStr _),(kV _ (pt b)),(kV _ (i_ (deep:Nat))),(kV _ (i_ ((deep)+1:Nat))),(kSts _ D 3),(kV _ (pt b)),(kV _ (i_ (deep:Nat))),(kV _ (i_ ((deep)+1:Nat))),(kSts _ D 2),(kSt _ ((D)+1)),(kAny _)]:List (SK (x1 X1))).getD i (kAny _)) rfl k_ (An.o _ (Aj.o.below (Below.drew (b_))) (AJ.o.bb_ (Below.drew (b_)))) ?_ ?_
  ·intro i o ho a w hI hout hin
   match i,ho with
   | 0,ho=>cases ho;exact rk_names HC.o rfl hI
   | 1,ho=>cases ho;exact M0_
   | 2,ho=>cases ho;exact bz_ rfl H1_ hI
   | 3,ho=>cases ho;exact ca_ d_ rfl H2_ hI
   | 4,ho=>cases ho;exact bk_ HC.o rfl H3_ hI
   | 5,ho=>cases ho;exact bp_ (n:=3) HC.o rfl H4_ rfl d_ d_ hI
   | 6,ho=>cases ho;exact rk_idx (n:=5) rfl (show (bs_ _ 5).p w _ from H0_) (kNat_le d_ (show (kNat _ 3).p w _ from H5_)) hI
   | 7,ho=>cases ho;exact eg_ rfl (show (df_ _).p w _ from H6_) hI
   | 8,ho=>cases ho;exact M0_
   | 9,ho=>cases ho;exact bl_ (.inl rfl) (show (kV _ (i_ (deep:Nat))).p w _ from (hout 1 d_)) hI
   | 10,ho=>cases ho;exact rk_inc o_ rfl H9_ hI
   | 11,ho=>cases ho;exact rk_list (n:=2) HC.o HL.o Aa d_ rfl H8_ H10_ rfl hI
   | 12,ho=>cases ho;exact M0_
   | 13,ho=>cases ho;exact bl_ (.inl rfl) (show (kV _ (i_ (deep:Nat))).p w _ from (hout 1 d_)) hI
   | 14,ho=>cases ho;exact rk_inc o_ rfl H13_ hI
   | 15,ho=>cases ho;exact rk_list (n:=1) HC.o HL.o Aa d_ rfl H12_ H14_ rfl hI
   | 16,ho=>cases ho;exact rk_bs_0167 rfl rfl (show (kStr _).p w _ from H7_) (show (kSts _ D 3).p w _ from H11_) (show (kSts _ D 2).p w _ from H15_) d_ d_ (fun h=>absurd h d_) hI
   | 17,ho=>cases ho;exact bi_ (fun _ h=>h) Ax A6.o.1 A6.o.2 rfl (hout 4 d_) (di_ (d':=D+1) o_ (show (kSt _ ((D)+1)).p w _ from H16_)) hI
   | q+18,ho=>exact n_ ho
  exact ub_
 have Bt:¬(r:Int)=5:=by omega
 have Bu:¬(r:Int)=6:=by omega
 have c2:=Aj.o.c2;have A8:=Aj.o.lt;have B2:=Aj.o.fz 2;have Ac:((lp+1:Nat):Int)=(lp:Int)+1:=by omega
 have AU:=Aj.o.set2 (lp+1);have AR:=(AJ.o.setCell (p:=(f_ b 2)) (.inl (.inr rfl)) (i_ ((lp+1:Nat):Int)));obtain ⟨V,hV⟩:=ex_ (w4.setCell (f_ b 2) (i_ ((lp+1:Nat):Int)));rw [<-hV] at AU AR;rw [Ac] at hV;have Ap:=q_ AU;have AK:=q_ AR;clear AU AR Ac;go_upto_region 11 with fail;rw [<-hV];clear hV c2 A8 B2 Bt Bu Aw;have Bo:=Ap.o.lt;go_cut [7] (fun v wx=>∃ (g eb:Nat) (s':ByteArray),v=.pointer (some (a_ g))/\s'.size<=100/\Hid (ForV d b (lp+1) V g eb s' wx))
 case first =>
  rename_i J1 K1 hJ1 hK1
  refine eq_ (X:=⟨Zm d b,fun _=>True⟩) (Inv:=(fun w2=>Mk d b (lp+1) w2/\Kp (Zm d b) V w2)) (ks:=fun i=>([(kStr ⟨Zm d b,fun _=>True⟩),(kLf ⟨Zm d b,fun _=>True⟩),(kV ⟨Zm d b,fun _=>True⟩ (pt b)),(kV ⟨Zm d b,fun _=>True⟩ (pt b)),(kV ⟨Zm d b,fun _=>True⟩ (pt b)),(kV ⟨Zm d b,fun _=>True⟩ (pt d)),(kNat ⟨Zm d b,fun _=>True⟩ (5)),(kLf ⟨Zm d b,fun _=>True⟩),(kLf2 ⟨Zm d b,fun _=>True⟩ (V)),(kFor ⟨Zm d b,fun _=>True⟩ (V)),(kVarS ⟨Zm d b,fun _=>True⟩ (V)),(kAny ⟨Zm d b,fun _=>True⟩)]:List (SK ⟨Zm d b,fun _=>True⟩)).getD i (kAny ⟨Zm d b,fun _=>True⟩)) 11 rfl k_ rfl rfl k_ ⟨Ap.o.below (Below.drew (b_)),Kp.of_below (Below.drew (b_))⟩ ?_ ?_
  ·have HC:=h_ (IC d b (lp+1) ⟨Zm d b,fun _=>True⟩ (fun w2=>Mk d b (lp+1) w2/\Kp (Zm d b) V w2)) (⟨fun _ h=>h.1,fun _ h=>h,fun _ h=>h.1.zlt,fun _ _ h h1 h2=>⟨h1,h.2.trans h2⟩,fun _ _ _ _ h=>h⟩);intro i o hne ho a w hI hout hin
   match i,ho,hne with
   | 0,ho,_=>cases ho;exact bl_ (.inl rfl) (show (kStr _).p w _ from ⟨s,hout 6 d_,hs⟩) hI
   | 1,ho,_=>cases ho;exact rk_numl HC.o rfl rfl hI
   | 2,ho,_=>cases ho;exact M0_
   | 3,ho,_=>cases ho;exact bz_ rfl H2_ hI
   | 4,ho,_=>cases ho;exact ca_ d_ rfl H3_ hI
   | 5,ho,_=>cases ho;exact bk_ HC.o rfl H4_ hI
   | 6,ho,_=>cases ho;exact bp_ (n:=5) HC.o rfl H5_ rfl d_ d_ hI
   | 7,ho,_=>cases ho;obtain ⟨q,hq⟩:=(cr_ (show (kNat _ 5).p w _ from H6_));exact rk_numl HC.o rfl hq hI
   | 8,ho,_=>cases ho;exact rk_lf2 HC.o (hI.2.size) rfl H1_ H7_ hI
   | 9,ho,_=>cases ho;exact rk_for rfl (show (kStr _).p w _ from H0_) H8_ hI
   | 10,ho,_=>cases ho;exact rk_vars HC.o (hI.2.size) rfl hI
   | 11,_,hne=>exact absurd rfl hne
   | q+12,ho,_=>exact n_ ho
  intro a w2 hI hsz A0 hout A3 K hK;obtain ⟨g,hg,Ba,BF,AF⟩:(kVarS ⟨Zm d b,fun _=>True⟩ V).p w2 (a.tmps.getD 7 undef):=A3 10 _ _ d_ rfl rfl;obtain ⟨s',eb,n1,n2,hv,AG,Bq,BC,B1⟩:(kFor ⟨Zm d b,fun _=>True⟩ V).p w2 (a.tmps.getD 86 undef):=A3 9 _ _ d_ rfl rfl;have hne:g≠eb:=by
   intro e;subst e;have h1:=AF.2.1 0 _ rfl;have h2:=B1.2.1 0 _ rfl;rw [h1] at h2;cases h2
  refine wp_store_mid 212 (.tmp 7) (.tmp 86) rfl g 0 _ hg hv (AF.there (Nat.le_refl 8)) isz8 (by simp [stL,Value.oneCell']) (hK _ _ ?_);have A1:ForV d b (lp+1) V g eb s' (w2.setCells g 0 (stL 5 s' ⟨#[]⟩ 0 0 (some (a_ eb)) 2 2 none 0 0 none 0 0)):=⟨hI.1.sets o_ _,ag_ _ _ _ hI.2 (.inr Ba),Bo,Ba,Bq,hne,AF.all _ rfl,n1,n2,B1.others hne _⟩;obtain ⟨W2,A5⟩:=ex_ (w2.setCells g 0 (stL 5 s' ⟨#[]⟩ 0 0 (some (a_ eb)) 2 2 none 0 0 none 0 0));rw [<-A5] at A1;show (Exit.then _ _) Exit.normal a (w2.setCells g 0 (stL 5 s' ⟨#[]⟩ 0 0 (some (a_ eb)) 2 2 none 0 0 none 0 0))
  rw [<-A5];have A7:=q_ A1;clear A5 A1 AF B1 hv;obtain ⟨gs,A9⟩:∃ gs:Nat->Value,∀ t,a.tmps.getD t undef=gs t:=⟨_,fun _=>rfl⟩;rw [A9] at hg;have ha:=dj_ (D:=[77,78,79,80,81,82,83,84,85,86,7]) hsz A0 t_ hout A9;simp only [List.foldl_cons,List.foldl_nil,Act.put,List.setIfInBounds_toArray,List.set_cons_zero,List.set_cons_succ] at ha;subst ha;refine hK1 _ _ ?_;go_meet;first | exact ⟨g,eb,s',hg,AG,A7⟩ | exact ⟨g,eb,s',rfl,AG,A7⟩
 case rest =>
 rename World=>w5
 obtain ⟨g,eb,s',rfl,AG,AA⟩:=hcut;generalize ((r:Int) == (5:Int))=zz5;go_upto_if 88 with fail;generalize decide (0<deep)=bd;generalize ((r:Int) == (6:Int))=zz6;go_cut [] (fun wx=>Hid (ForV d b (lp+1) V g eb s' wx))
 case first =>
  rename_i J1 K1 hJ1 hK1
  cases bd
  case true =>
   go_upto_region 13 with fail;refine eq_ (X:=⟨Zm d b,fun _=>True⟩) (Inv:=ForV d b (lp+1) V g eb s') (ks:=fun i=>([(kV ⟨Zm d b,fun _=>True⟩ (.pointer (some (f_ g 5)))),(kV ⟨Zm d b,fun _=>True⟩ (.slice (some (a_ eb)) 2 2)),(kV ⟨Zm d b,fun _=>True⟩ (pt b)),(kV ⟨Zm d b,fun _=>True⟩ (pt b)),(kV ⟨Zm d b,fun _=>True⟩ (pt b)),(kV ⟨Zm d b,fun _=>True⟩ (pt d)),(kNat ⟨Zm d b,fun _=>True⟩ (3)),(kLf ⟨Zm d b,fun _=>True⟩),(kV ⟨Zm d b,fun _=>True⟩ (.pointer (some (f_ eb 5)))),(kAny ⟨Zm d b,fun _=>True⟩)]:List (SK ⟨Zm d b,fun _=>True⟩)).getD i (kAny ⟨Zm d b,fun _=>True⟩)) 9 rfl k_ rfl rfl k_ (AA.o.up (AA.o.ok.below (Below.drew (b_))) (Kp.of_below (Below.drew (b_)))) ?_ ?_
   ·have HC:=q_ (ForV.ic (d:=d) (b:=b) (lp:=lp+1) (w0:=V) (g:=g) (eb:=eb) (s:=s'));intro i o hne ho a w hI hout hin
    match i,ho,hne with
    | 0,ho,_=>cases ho;exact rk_fld8 d_ rfl (hout 7 d_) hI
    | 1,ho,_=>cases ho;exact rk_load (.inr (.inr (.inr (.inr (.inr rfl))))) rfl H0_ (hI.bx.2.1 5 _ rfl) rfl hI
    | 2,ho,_=>cases ho;exact M0_
    | 3,ho,_=>cases ho;exact bz_ rfl H2_ hI
    | 4,ho,_=>cases ho;exact ca_ d_ rfl H3_ hI
    | 5,ho,_=>cases ho;exact bk_ HC.o rfl H4_ hI
    | 6,ho,_=>cases ho;exact bp_ (n:=3) HC.o rfl H5_ rfl d_ d_ hI
    | 7,ho,_=>cases ho;obtain ⟨q,hq⟩:=(cr_ (show (kNat _ 3).p w _ from H6_));exact rk_numl HC.o rfl hq hI
    | 8,ho,_=>cases ho;exact rk_ix1 rfl H1_ hI
    | 9,_,hne=>exact absurd rfl hne
    | q+10,ho,_=>exact n_ ho
   intro a w2 hI hsz A0 hout A3 K hK;have hg:a.tmps.getD 97 undef=.pointer (some (f_ eb 5)):=A3 8 _ _ d_ rfl rfl;obtain ⟨n,hv⟩:(kLf ⟨Zm d b,fun _=>True⟩).p w2 (a.tmps.getD 96 undef):=A3 7 _ _ d_ rfl rfl;obtain ⟨n1,n2,hb⟩:=hI.be;refine wp_store_mid 209 (.tmp 97) (.tmp 96) rfl eb 5 _ hg hv (hb.there (Nat.le_refl 10)) isz5 (by simp [lfL,exL,Value.oneCell']) (hK _ _ ?_);have A1:=hI.put n;obtain ⟨W2,A5⟩:=ex_ (w2.setCells eb 5 (lfL n));rw [<-A5] at A1;show (Exit.then _ _) Exit.normal a (w2.setCells eb 5 (lfL n))
   rw [<-A5];have A7:=q_ A1;clear A5 A1 hv hg;obtain ⟨gs,A9⟩:∃ gs:Nat->Value,∀ t,a.tmps.getD t undef=gs t:=⟨_,fun _=>rfl⟩;have ha:=dj_ (D:=[89,90,91,92,93,94,95,96,97]) hsz A0 t_ hout A9;simp only [List.foldl_cons,List.foldl_nil,Act.put,List.setIfInBounds_toArray,List.set_cons_zero,List.set_cons_succ] at ha;subst ha;refine hK1 _ _ ?_;go_meet;exact A7
  go_upto_block 99 with fail;go_meet;exact AA
 case rest =>
 rename World=>w6
 have Ad:=hcut;clear hcut AA;obtain ⟨X2,Al⟩:∃ X2:NP,X2=fun k=>X1 k\/k=g:=⟨_,rfl⟩
 have Az:∀ q,Zm d b q->X2 q:=fun q hq=>by rw [Al];exact .inl (AM.o.2 q hq)
 have B7:∀ q,X1 q->X2 q:=fun q hq=>by rw [Al];exact .inl hq
 have BA:(W:Nat)<=V:=AK.o.size;have Bz:(V:Nat)<=w6:=Ad.o.kp.size;have Bb:∀ q,X2 q->q<w6:=fun q hq=>by rw [Al] at hq;rcases hq with hq | hq;(have:=AM.o.1 q hq;omega);(rw [hq];exact Ad.o.bx.1)
 have Bs:=Ad.o.gl;have BD:=Ad.o.el;have Av:¬X2 eb:=fun hq=>by rw [Al] at hq;rcases hq with hq | hq;(have:=AM.o.1 _ hq;omega);exact Ad.o.ne hq.symm
 have AC:=h_ (X2 g) (by rw [Al];exact .inr rfl);have Ar:=q_ Az;have Bd:=q_ B7;have Ai:=q_ Bb;have Bg:=q_ Av;clear Al Az B7 Bb Av;go_upto_region 14 with fail;go_wp2_with fail;rw [show (deep:Int)+1=((deep+1:Nat):Int) from by omega];refine (HL.o d b (lp+1) X2 3 w6 d_ o_ Ad.o.ok Ar.o Ai.o).mono ?_;rintro e w7 ⟨⟨B,m,c,rfl,hm,_,hO⟩,AD⟩;have Ab:=q_ (Ad.o.up AD.ok AD.kp);have g6:=Ab.o.bx.2.1 6 _ rfl;have gf:=Ab.o.bx.2.2 6;have Br:=Ab.o.bx.1;have AV:=(show Md d b (lp+1) V w7 from ⟨Ab.o.ok,Ab.o.kp⟩).new (p:=(f_ g 6)) Bs (by show b<g;omega) (.slice B m c);have AX:=hO.o.kpz (Z:=fun k=>k=g) ((Kp.refl (fun k=>k=g) w7).setCell (p:=(f_ g 6)) (.inl rfl) (.slice B m c)) (fun k hk=>by rw [hk];exact AC.o) (fun k hk=>by rw [hk];exact Ai.o g AC.o);have AN:=Ab.o.bx.set 6 (.slice B m c);obtain ⟨i1,i2,B8⟩:=Ab.o.be;have AO:=B8.far (p:=(f_ g 6)) Ab.o.ne (.slice B m c);obtain ⟨w8,AH⟩:=ex_ (w7.setCell (f_ g 6) (.slice B m c));rw [<-AH] at AV AX AN AO;have Ae:=q_ AV;have Aq:=q_ AX;have B4:=h_ (Bx w8 g (stL 5 s' ⟨#[]⟩ 0 0 (some (a_ eb)) 2 2 B m c none 0 0)) AN;have Bf:=q_ AO;have Be:=h_ ((w6:Nat)<=w8) (by rw [AH];simpa using AD.kp.size);clear hO AD AV AX AN B8 AO;go_upto_region 15 with fail;rw [<-AH];clear AH g6 gf Br;have c0:=Ae.o.ok.c0;have A8:=Ae.o.ok.lt;have Bw:(w6:Nat)<=w8:=Be.o;have Bm:=h_ (∀ (w':World),Mk d b (lp+1) w'->Kp (Zm d b) w8 w'->FinV d b (lp+1) X2 W g D w') (fun w' h1 h2=>by
  have hZ:∀ k,Zm d b k->k<V:=fun k hk=>by have:=Ap.o.zlt k hk;omega
  have hv:=for_vts (Bf.o.kp h2 (fun hk=>by have:=hZ _ hk;omega)) Bg.o AG ((Aq.o.kpz h2 Ar.o (fun k hk=>by have:=hZ k hk;omega)).slP Ai.o o_)
  exact ⟨h1,(AK.o.trans Ae.o.kp).trans h2,_,B4.o.kp h2 (fun hk=>by have:=hZ _ hk;omega),hv.1,hv.2⟩)
 go_cut [112] (fun v wx=>∃ bq:Bool,v=.bool bq/\Hid (Mk d b (lp+1) wx)/\Hid (Kp (Zm d b) w8 wx))
 case first =>
  by_cases h9:r=9
  ·subst h9;go_wp2_with (go_at_call 26;refine (bn_ d 2 w8 Ae.o.ok.dice d_ d_).mono ?_;rintro e w9 ⟨q,hq,rfl,ht,_⟩);go_meet;exact ⟨_,rfl,q_ (Ae.o.ok.thrown ht),q_ (ht.kp b)⟩
  have By:¬(r:Int)=9:=by omega
  go_wp2;go_meet;exact ⟨_,rfl,q_ Ae.o.ok,q_ (Kp.refl _ _)⟩
 case rest =>
 rename World=>w9
 obtain ⟨bq,rfl,B5,B6⟩:=hcut;clear c0 A8;go_upto_if 112 with fail;go_cut [] (fun wx=>Hid (FinV d b (lp+1) X2 W g D wx))
 case first =>
  rename_i J1 K1 hJ1 hK1
  cases bq
  case false =>
   go_upto_block 99 with fail;go_meet;exact q_ (Bm.o _ B5.o B6.o)
  obtain ⟨X4,Am⟩:∃ X4:NP,X4=fun k=>X2 k\/(Value.slice B m c).ownBlock=some k:=⟨_,rfl⟩
  have AB:=h_ (RwF d b X4 X2 w6 g B m c W) (⟨Ar.o,fun k hk=>by rw [Am];exact .inl hk,fun k hk=>by rw [Am] at hk;exact hk,fun k hk=>by rw [Am];exact .inr hk,Ai.o,fun e=>by have:=(Aq.o.blk e).1;have:=Ai.o g AC.o;omega,o_,o_,o_⟩);have Bi:=h_ (∀ w',Below w9 w9 w'->InvW d b (lp+1) X4 W g (stL 5 s' ⟨#[]⟩ 0 0 (some (a_ eb)) 2 2 B m c none 0 0) w6 D B m c w') (fun w' hb=>by
   have hZ:∀ k,Zm d b k->k<V:=fun k hk=>by have:=Ap.o.zlt k hk;omega
   have hk:Kp (Zm d b) w8 w':=B6.o.bb_ hb
   have h8:=hk.size
   refine ⟨B5.o.below hb,(AK.o.trans Ae.o.kp).trans hk,fun k hk=>?_,B4.o.kp hk (fun hk=>by have:=hZ _ hk;omega),(Aq.o.kpz hk Ar.o (fun k hk=>by have:=hZ k hk;omega)).re (fun g hg=>(Aq.o.blk hg).1) (fun k _ hk=>?_),o_⟩
   ·rw [Am] at hk
    rcases hk with hk | hk
    ·have:=Ai.o k hk;omega
    have:=(Aq.o.blk hk).2;omega
   rw [Am] at hk;exact hk)
  clear Am;go_upto_region 16 with fail;refine eq_ (X:=⟨X4,EvW X2 D B m c⟩) (Inv:=InvW d b (lp+1) X4 W g (stL 5 s' ⟨#[]⟩ 0 0 (some (a_ eb)) 2 2 B m c none 0 0) w6 D B m c) (ks:=fun i=>([(kStr ⟨X4,EvW X2 D B m c⟩),(kEx ⟨X4,EvW X2 D B m c⟩ (0)),(kV ⟨X4,EvW X2 D B m c⟩ (pt b)),(kV ⟨X4,EvW X2 D B m c⟩ (pt b)),(kV ⟨X4,EvW X2 D B m c⟩ (pt b)),(kV ⟨X4,EvW X2 D B m c⟩ (pt d)),(kNat ⟨X4,EvW X2 D B m c⟩ (4)),(kEx ⟨X4,EvW X2 D B m c⟩ (0)),(kEx ⟨X4,EvW X2 D B m c⟩ (1)),(kExs ⟨X4,EvW X2 D B m c⟩ (dE) (1)),(kV ⟨X4,EvW X2 D B m c⟩ (.pointer (some (f_ g 6)))),(kV ⟨X4,EvW X2 D B m c⟩ (.slice B m c)),(kStr ⟨X4,EvW X2 D B m c⟩),(kStr ⟨X4,EvW X2 D B m c⟩),(kEx ⟨X4,EvW X2 D B m c⟩ (0)),(kEx ⟨X4,EvW X2 D B m c⟩ (0)),(kEx ⟨X4,EvW X2 D B m c⟩ (1)),(kSt ⟨X4,EvW X2 D B m c⟩ (0)),(kSt1 ⟨X4,EvW X2 D B m c⟩ D),(kApp X4 X2 D B m c),(kWhile X4 X2 D B m c),(kAny ⟨X4,EvW X2 D B m c⟩)]:List (SK ⟨X4,EvW X2 D B m c⟩)).getD i (kAny ⟨X4,EvW X2 D B m c⟩)) 21 rfl k_ rfl rfl k_ (Bi.o _ (Below.drew (b_))) ?_ ?_
  ·have HC:=q_ (InvW.ic (D:=D) (CS:=stL 5 s' ⟨#[]⟩ 0 0 (some (a_ eb)) 2 2 B m c none 0 0) (lp:=lp+1) AB.o);intro i o hne ho a w hI hout hin
   match i,ho,hne with
   | 0,ho,_=>cases ho;exact bl_ (.inl rfl) (show (kStr ⟨X4,EvW X2 D B m c⟩).p w _ from ⟨s,hout 6 d_,hs⟩) hI
   | 1,ho,_=>cases ho;exact eh_ HC.o rfl (show (kStr ⟨X4,EvW X2 D B m c⟩).p w _ from H0_) hI
   | 2,ho,_=>cases ho;exact bl_ (.inl rfl) (show (kV ⟨X4,EvW X2 D B m c⟩ (pt b)).p w _ from (hout 0 d_)) hI
   | 3,ho,_=>cases ho;exact bz_ rfl H2_ hI
   | 4,ho,_=>cases ho;exact ca_ d_ rfl H3_ hI
   | 5,ho,_=>cases ho;exact bk_ HC.o rfl H4_ hI
   | 6,ho,_=>cases ho;exact bp_ (n:=4) HC.o rfl H5_ rfl d_ d_ hI
   | 7,ho,_=>cases ho;obtain ⟨q,hq⟩:=(cr_ (show (kNat ⟨X4,EvW X2 D B m c⟩ (4)).p w _ from H6_));exact rk_num HC.o rfl hq hI
   | 8,ho,_=>cases ho;exact rk_bin HC.o rfl ⟨_,rfl⟩ (show (kEx ⟨X4,EvW X2 D B m c⟩ (0)).p w _ from H1_) (show (kEx ⟨X4,EvW X2 D B m c⟩ (0)).p w _ from H7_) hI
   | 9,ho,_=>cases ho;exact dq_ HC.o rfl (bg_ (d':=dE) zn_ (show (kEx ⟨X4,EvW X2 D B m c⟩ (1)).p w _ from H8_)) hI
   | 10,ho,_=>cases ho;exact rk_fld8 d_ rfl (hout 7 d_) hI
   | 11,ho,_=>cases ho;exact rk_load (.inr (.inr (.inr (.inr (.inl rfl))))) rfl H10_ (hI.bx.2.1 6 _ rfl) rfl hI
   | 12,ho,_=>cases ho;exact bl_ (.inl rfl) (show (kStr ⟨X4,EvW X2 D B m c⟩).p w _ from ⟨s,hout 6 d_,hs⟩) hI
   | 13,ho,_=>cases ho;exact bl_ (.inl rfl) (show (kStr ⟨X4,EvW X2 D B m c⟩).p w _ from ⟨s,hout 6 d_,hs⟩) hI
   | 14,ho,_=>cases ho;exact eh_ HC.o rfl (show (kStr ⟨X4,EvW X2 D B m c⟩).p w _ from H13_) hI
   | 15,ho,_=>cases ho;exact rk_num HC.o rfl rfl hI
   | 16,ho,_=>cases ho;exact rk_bin HC.o rfl ⟨_,rfl⟩ (show (kEx ⟨X4,EvW X2 D B m c⟩ (0)).p w _ from H14_) (show (kEx ⟨X4,EvW X2 D B m c⟩ (0)).p w _ from H15_) hI
   | 17,ho,_=>cases ho;exact dg_ HC.o rfl (show (kStr ⟨X4,EvW X2 D B m c⟩).p w _ from H12_) (bg_ (d':=dE) zn_ (show (kEx ⟨X4,EvW X2 D B m c⟩ (1)).p w _ from H16_)) hI
   | 18,ho,_=>cases ho;exact rk_st1 HC.o rfl (di_ (Nat.zero_le _) (show (kSt ⟨X4,EvW X2 D B m c⟩ 0).p w _ from H17_)) hI
   | 19,ho,_=>cases ho;exact rk_app AB.o rfl H11_ H18_ hI
   | 20,ho,_=>cases ho;exact rk_while rfl H9_ H19_ hI
   | 21,_,hne=>exact absurd rfl hne
   | q+22,ho,_=>exact n_ ho
  intro a w2 hI hsz A0 hout A3 K hK;have hg:a.tmps.getD 7 undef=.pointer (some (a_ g)):=hout 7 d_;obtain ⟨A',n',c',E1,ec,hv,h1,h2⟩:(kWhile X4 X2 D B m c).p w2 (a.tmps.getD 133 undef):=A3 20 _ _ d_ rfl rfl;refine wp_store_mid 212 (.tmp 7) (.tmp 133) rfl g 0 _ hg hv (hI.bx.there (Nat.le_refl 8)) isz8 (by simp [stL,Value.oneCell']) (hK _ _ ?_);have Ag:FinV d b (lp+1) X2 W g D (w2.setCells g 0 (stL 6 ⟨#[]⟩ ⟨#[]⟩ 0 0 E1 1 ec A' n' c' none 0 0)):=⟨hI.ok.setsO o_ 0 _,ag_ _ _ _ hI.kp (.inr o_),_,hI.bx.all _ rfl,VTs.up (vts_st (h1.less (fun k _ hk=>AB.o.x2 k hk)) (h2.slP AB.o.x2) (SlP.nil _ _ _ _ _)) (ag_ _ _ _ (Kp.refl _ _) (.inl AC.o)) (l_),pS_st x_ (fun _=>l_) x_ d_ d_⟩;obtain ⟨W2,A5⟩:=ex_ (w2.setCells g 0 (stL 6 ⟨#[]⟩ ⟨#[]⟩ 0 0 E1 1 ec A' n' c' none 0 0));rw [<-A5] at Ag;show (Exit.then _ _) Exit.normal a (w2.setCells g 0 (stL 6 ⟨#[]⟩ ⟨#[]⟩ 0 0 E1 1 ec A' n' c' none 0 0))
  rw [<-A5];have Bh:=q_ Ag;clear A5 Ag hv hg h1 h2;obtain ⟨gs,A9⟩:∃ gs:Nat->Value,∀ t,a.tmps.getD t undef=gs t:=⟨_,fun _=>rfl⟩;have ha:=dj_ (D:=[113,114,115,116,117,118,119,120,121,122,123,124,125,126,127,128,129,130,131,132,133]) hsz A0 t_ hout A9;simp only [List.foldl_cons,List.foldl_nil,Act.put,List.setIfInBounds_toArray,List.set_cons_zero,List.set_cons_succ] at ha;subst ha;refine hK1 _ _ ?_;go_meet;exact Bh
 case rest =>
 rename World=>wE
 have Ah:=hcut;clear hcut;obtain ⟨cs,AZ,B9,Bp⟩:=Ah.o.bx;have c2:=Ah.o.ok.c2;have A8:=Ah.o.ok.lt;have B2:=Ah.o.ok.fz 2;have AW:=Ah.o.ok.set2 lp;have AT:=Kp.setm (X:=Zm d b) Ah.o.kp 2 (i_ lp);have AS:=Kp.setm (X:=Zm d b) (Kp.refl (Zm d b) wE) 2 (i_ lp);have Af:=AZ.kp AS (fun hk=>by have:=Ap.o.zlt _ hk;omega);have A2:=B9.up (AS.mono (fun k _ hk=>Ar.o k hk)) (l_);have BE:=AZ.1;obtain ⟨U,hU⟩:=ex_ (wE.setCell (f_ b 2) (i_ lp));rw [<-hU] at AW AT Af A2;have AQ:=An.o U AW AT;have AL:=q_ (AQ.put Ax A6.o.1 A6.o.2 (A2.less (fun q _ hq=>Bd.o q hq)) Bp);obtain ⟨zs,Ay,Az,Bv⟩:=AQ.bx;have BG:=q_ Af;have IG:=h_ ((prog.info? 212).map (·.size)=some cs.length) (by rw [A2.1,by_];exact isz8);have BR:=q_ Ay;have LR:=h_ (zs.length=8) (by rw [Az.1,by_]);have Bj:=h_ (cs.length<=8) (by rw [A2.1,by_];exact Nat.le_refl 8);have Bl:=q_ A2.one;clear AZ B9 Af A2 AS Ay Az Bv AW AT AQ;go_upto_region 18 with fail;rw [<-hU];clear hU c2 A8 B2;go_wp2_with (first
  | (with_reducible refine ac_ rfl 212 (.tmp 7) rfl _ underlying212 rfl v_ BG.o.whole IG.o ?_)
  | (with_reducible refine ab_ rfl 212 (.tmp 4) (.tmp 141) rfl cs w_ v_ (BR.o.ai_ LR.o Bj.o) IG.o Bl.o ?_)
  | fail)
 exact A4.o _ _ AL.o.1 rfl za_
end Go.Proofs.YtfolidlmgfhkiaaGreat
