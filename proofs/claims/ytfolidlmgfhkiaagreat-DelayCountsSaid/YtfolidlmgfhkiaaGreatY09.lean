/- Lemmas on functions of the program, under the conditions that each states. -/
import Derived.Test.YtfolidlmgfhkiaaGreatY08
set_option linter.unusedVariables false
set_option linter.unusedSimpArgs false
set_option maxRecDepth 100000
set_option maxHeartbeats 8000000
namespace Go.Proofs.YtfolidlmgfhkiaaGreat
open Go.RowKit Go.Proofs.Tryz
theorem infoStr:(prog.info? 9).map (fun i=>(i.zero,i.size,i.bytes))=some (some (.string ⟨#[]⟩),1,16):=by kernel_rfl
theorem ei_strP:EI prog 188 9 [.sat strP] 16:=EI.of (z:=.string ⟨#[]⟩) underlying188 infoStr rfl d_
theorem slt_strs {w:World} {X:NP} {g n:Nat} (hg:g<w) (hX:¬X g) (hn:n<=20) (hc:∀ i,i<n->∃ s:ByteArray,w.cell? (f_ g i)=some (.string s)/\s.size<=100):SlT w X 20 [.sat strP] (some (a_ g)) n n:=by
 refine ⟨hn,l_,o_,x_,fun ad h=>?_⟩;injection h with h;subst h;obtain ⟨l,hl,hR⟩:=list_choose (n:=n) (R:=fun i (s:ByteArray)=>w.cell? (f_ g i)=some (.string s)/\s.size<=100) hc;refine ⟨g,0,rfl,hg,hX,fun k _=>.string ((l[k]?).getD ⟨#[]⟩),fun k j t hk hj=>?_,fun k j t hk hj=>?_⟩
 ·have A0:j=0:=by have:=(e_ hj).1;simp at this;omega
  subst A0;obtain ⟨h1,h2⟩:=hR k _ (ge_ (by omega:k<l.length));have e:(l[k]?).getD ⟨#[]⟩=l[k]:=by rw [ge_ (by omega:k<l.length),Option.getD_some]
  show _=some (Value.string ((l[k]?).getD ⟨#[]⟩))
  rw [e]
  simpa using h1
 have A0:j=0:=by have:=(e_ hj).1;simp at this;omega
 subst A0;injection hj with hj;subst hj;obtain ⟨h1,h2⟩:=hR k _ (ge_ (by omega:k<l.length));have e:(l[k]?).getD ⟨#[]⟩=l[k]:=by rw [ge_ (by omega:k<l.length),Option.getD_some]
 show VT w X 20 (.sat strP) (Value.string ((l[k]?).getD ⟨#[]⟩))
 rw [e];exact .sat _ _ rfl ⟨_,rfl,h2⟩
theorem SlT.str_at {w:World} {X:NP} {K n c k:Nat} {A:OA} (h:SlT w X K [.sat strP] A n c) (hk:k<n):∃ g o,∃ s:ByteArray,A=some (f_ g o)/\g<w/\s.size<=100/\w.cell? ⟨g,o+k,none⟩=some (.string s):=by
 obtain ⟨g,o,hA,hg,hX,us,hv,hm⟩:=h.mt hk;obtain ⟨u,hu,ht⟩:=hv.2 0 (.sat strP) rfl;obtain ⟨t,rfl,A0⟩:strP u:=by cases ht;assumption
 exact ⟨g,o,t,hA,hg,A0,by have:=hm 0 _ hu;simpa using this⟩
theorem first_m (X:NP) (D:Nat) (A:OA) (n c:Nat) (g:Nat) (w:World) (hX:∀ k,X k->k<w) (hl:SlP w X 20 pS (ah_ D) A n c) (hn:n<=9) (hg:g<w) (hgX:¬X g) (hc:∀ i,i<3->∃ s:ByteArray,w.cell? (f_ g i)=some (.string s)/\s.size<=100) :
  Calls prog 115 #[.slice A n c,.slice (some (a_ g)) 3 3] w fun e w'=>RLO X w D (n+8) e w'/\Below w w w':=by
 have HL:=q_ hl;have HX:=q_ hX;have HG:=q_ (slt_strs hg hgX d_ hc);clear hl hX hc;go_enter func115,ntmps115;go_upto_region 2 with fail;go_upto_region 3 with (first
  | (go_at_call 167;refine (names_m w).mono ?_;rintro e w1 ⟨rfl,Ar,A0,Ac⟩;have HN:=q_ (slt_strs (X:=X) (w:=w1) (g:=w) (n:=5) o_ (fun h=>by have:=HX.o _ h;omega) d_ Ac);have Aa:=q_ A0;have Af:=q_ (HG.o.up (Kp.of_below A0) (l_));have Am:=h_ (∀ k,X k->k<w1) (fun k hk=>by have:=HX.o k hk;omega);clear Ac A0)
  | (at_builtin;refine wpList_append_sh rfl _ _ rfl ei_strP X 20 _ 5 5 v_ HN.o _ 3 3 v_ Af.o (.inr d_) Am.o d_ m_ d_ ?_;intro A2 c2 w2 Ad A1)
  | fail)
 have A7:=q_ (Aa.o.trans (A1.mono Aa.o.size));have Ai:=q_ Ad;have A3:(w:Nat)<=w2:=A7.o.size;clear Ad A1;go_upto_block 0 with fail;go_loopw [5,12] (fun o iv wr=>∃ (A':OA) (m c':Nat),m<=8/\o=.slice A' m c'/\iv=i_ m/\Hid (OwP wr w2 212 pS (ah_ D) X 20 A' m c')/\Hid (Below w2 w2 wr)) (fun _ iv _=>8 - (intOf iv).toNat)
 case atStart=>exact ⟨none,0,0,o_,rfl,rfl,q_ (OwP.nil _ _ _ _ _ _ _),q_ (b_)⟩
 obtain ⟨A',m,c',hm,rfl,rfl,HO,HB⟩:=hrel;have Ap:(w2:Nat)<=wr:=HB.o.size;have A4:=h_ (∀ k,X k->k<wr) (fun k hk=>by have:=HX.o k hk;omega);by_cases hlt:m<8
 ·have A8:(m:Int)<8:=by omega
  obtain ⟨sg,so,s,rfl,Aq,Ao,An⟩:=(Ai.o.up (Kp.of_below HB.o) (l_)).str_at hlt;go_upto_region 5 with fail;clear An;go_wp2_with fail;refine (num_m 0 wr).mono ?_;rintro e v1 ⟨rfl,A0⟩;have B1:=q_ A0;have E1:=h_ (ExV v1 (Wi X (Value.slice A' m c').ownBlock) dE 1 0 ⟨#[]⟩ 0 none 0 0) (⟨exprT_le (Nat.zero_le _) (vts_ex0 _ _ _ _) (pE_ex x_ x_ d_),pE_ex x_ x_ d_⟩);have O1:=q_ (HO.o.below A0);have X1:=h_ (∀ k,Wi X (Value.slice A' m c').ownBlock k->k<v1) (fun k hk=>by
   have:=A0.size
   rcases hk with hk | hk
   ·have:=A4.o k hk;omega
   have:=(HO.o.blk hk).2;omega)
  clear A0;go_wp2_with fail;refine (set_m (Wi X (Value.slice A' m c').ownBlock) s 1 0 ⟨#[]⟩ 0 none 0 0 v1 Ao E1.o X1.o).mono ?_;rintro e v2 ⟨⟨kd,s2,f,n',op,E,em,ec,B,m1,c1,C,m2,c3,rfl,hv⟩,A1⟩;have B2:=q_ (B1.o.trans (A1.mono B1.o.size));have V2:=h_ (VTs v2 (Wi X (Value.slice A' m c').ownBlock) 20 (ah_ D) (stL kd s2 f n' op E em ec B m1 c1 C m2 c3)/\pS (stL kd s2 f n' op E em ec B m1 c1 C m2 c3)) (⟨stmtT_le (Nat.zero_le _) hv.o.1 hv.o.2,hv.o.2⟩);have O2:=q_ (O1.o.below A1);have BN:=q_ (Bx.new v2 (stL kd s2 f n' op E em ec B m1 c1 C m2 c3) 212);obtain ⟨U,hU⟩:=ex_ (v2.alloc (.cells (stL kd s2 f n' op E em ec B m1 c1 C m2 c3).toArray 212));rw [<-hU] at BN;have A5:Below v2 v2 U:=by rw [hU];exact ax_ _ _ _
  have A3:(wr:Nat)<=v2:=B2.o.size;have O3:=q_ (O2.o.below A5);have Ab:=h_ (Below wr wr U) (B2.o.trans (A5.mono A3));have As:(wr:Nat)<=U:=Ab.o.size;have Aj:=h_ (SlP U (Wi X (Value.slice A' m c').ownBlock) 20 pS (ah_ D) (some (a_ v2)) 1 1) (SlP.one BN.o (fun h=>by rcases h with h | h;(have:=A4.o _ h;omega);(have:=(O2.o.blk h).2;omega)) d_ (V2.o.1.up (.of_below A5) (l_)) V2.o.2);have Al:=h_ (∀ k,X k->k<U) (fun k hk=>by have:=A4.o k hk;omega);have Ak:=h_ (U=v2.alloc (.cells #[i_ kd,.string s2,.string f,i_ n',i_ op,.slice E em ec,.slice B m1 c1,.slice C m2 c3] 212)) hU;clear hv A1 hU A5;go_wp2_with (at_builtin;rw [<-Ak.o];refine dq_ rfl _ _ rfl ei_stmt v_ O3.o v_ Aj.o Al.o m_ o_ o_ ?_;intro A6 c6 w6 o6 g6 l6);have A9:∀ k,(Value.slice A' m c').ownBlock=some k->w2<=k/\k<U:=fun k hk=>O3.o.blk hk
  have Ae:=q_ ((HB.o.trans (Ab.o.mono Ap)).grown g6 o_ (fun k hk=>(A9 k hk).1));have Ah:=q_ o6;clear o6 g6 l6;go_roundw
  case rel=>exact ⟨A6,m+1,c6,o_,rfl,za_,Ah,Ae⟩
  case measure=>exact me_
 have A8:¬(m:Int)<8:=by omega
 obtain rfl:m=8:=by omega
 have Ag:=h_ (SlP wr (Wi X (Value.slice A' 8 c').ownBlock) 20 pS (ah_ D) A n c) (HL.o.kept (.of_below (A7.o.trans (HB.o.mono A3))) (fun k hk h1 h2=>by rcases h2 with h2 | h2;exact h1 h2;(have:=(HO.o.blk h2).1;omega)) (l_));go_upto_region 7 with fail;go_wp2_with (at_builtin;refine dq_ rfl _ _ rfl ei_stmt v_ HO.o v_ Ag.o A4.o m_ o_ o_ ?_;intro A6 c6 w6 o6 g6 l6);go_ret;exact ⟨⟨A6,8+n,c6,rfl,o_,fun h=>o_,q_ (o6.mono A3)⟩,(A7.o.trans (HB.o.mono A3)).grown g6 o_ (fun k hk=>by have:=(HO.o.blk hk).1;omega)⟩
section
variable {Q:Exit->Act->World->Prop} {X:XE} {Inv:World->Prop} {o:Oper} {a:Act} {w:World} {d b lp:Nat} {x y z:Operand}
theorem rk_simple (hC:IC d b lp X Inv) (ho:o.op=.call { callee:=.value (.func 196),args:=#[x],argTypes:=#[203] }) (hx:a.eval x=.pointer (some (a_ b))) (hI:Inv w):RnK prog Q X Inv (kSt X 0) o a w:=by
 have hf:a.eval (.func 196)=.func (.func 196) #[] #[]:=rfl;generalize hr:a.eval=r at hx hf;refine cm_ (f:=196) (args:=#[.pointer (some (a_ b))]) yu_ ((simple_ok d b lp X w (hC.ok w hI) hC.zx (hC.lt w hI)).mono ?_);exact ui_
theorem rk_list {deep D n:Nat} (hC:IC d b lp X Inv) (hL:LsOK deep D) (hlp:lp<=100+deep) (hn:n<=6) (ho:o.op=.call { callee:=.value (.func 113),args:=#[x,y,z],argTypes:=#[203,3,3] }) (hx:a.eval x=.pointer (some (a_ b))) (hy:a.eval y=i_ deep) (hz:a.eval z=i_ n) (hI:Inv w):RnK prog Q X Inv (kSts X D (n+1)) o a w:=by
 have hf:a.eval (.func 113)=.func (.func 113) #[] #[]:=rfl;generalize hr:a.eval=r at hx hy hz hf;refine cm_ (f:=113) (args:=#[.pointer (some (a_ b)),i_ deep,i_ n]) xp_ ((hL d b lp X n w hn hlp (hC.ok w hI) hC.zx (hC.lt w hI)).mono ?_);rintro e w' ⟨⟨A,m,c,rfl,hm,_,h⟩,hb⟩;exact ⟨_,rfl,hb.kp.mono (fun q _ hq=>hC.zx q hq),hC.ex w w' hI hb.kp,hC.up w w' hI hb.ok hb.kp,A,m,c,rfl,hm,h.o.slP (hC.lt w hI) o_⟩
end
theorem stmt_of3:StOK 3 0:=by
 intro d b lp X w Ai hM hz A8;obtain ⟨W,hW,A5,Ae,B0⟩:=ag_ w [i_ 0,.string ⟨#[]⟩,.string ⟨#[]⟩,i_ 0,i_ 0,.slice none 0 0,.slice none 0 0,.slice none 0 0] 212;have A1:=hM.below A5;have Ag:b<w:=hM.lt;obtain ⟨X1,A0⟩:∃ X1:NP,X1=fun q=>X q\/q=w:=⟨_,rfl⟩
 obtain ⟨Z1,A2⟩:∃ Z1:NP,Z1=fun q=>Zm d b q\/q=w:=⟨_,rfl⟩
 have A7:=h_ (X1 w/\Z1 w) (⟨by rw [A0];exact .inr rfl,by rw [A2];exact .inr rfl⟩);have A4:InvR d b lp X1 Z1 w w (ah_ (0)) pS W:=⟨A1,.of_below A5,fun q hq=>by rw [A0] at hq;rcases hq with hq | hq;(have:=A8 q hq;omega);omega,_,B0,ec_ (SlP.nil _ _ _ _ _),pS_st x_ x_ x_ d_ d_⟩;have hC:IC d b lp (x1 X1) (InvR d b lp X1 Z1 w w (ah_ (0)) pS):=InvR.ic (fun _ _ _ h=>h) (fun q hq=>by rw [A0];exact .inl (hz q hq)) (fun q hq=>by rw [A2];exact .inl hq) hM.nz;have Ah:=h_ ((∀ q,X1 q->q<W)/\(∀ q,Zm d b q->X1 q)) (⟨A4.lt,fun q hq=>by rw [A0];exact .inl (hz q hq)⟩);have HC:=q_ hC;have Aa:=h_ (∀ w',Mk d b lp w'->Kp (Zm d b) W w'->InvR d b lp X1 Z1 w w (ah_ (0)) pS w') (fun w' h1 h2=>hC.up W w' A4 h1 h2);have A3:=h_ (∀ (a:Act) (w2:World),InvR d b lp X1 Z1 w w (ah_ (0)) pS w2->a.defers=[]->a.tmps.getD 4 undef=.pointer (some (a_ w))->bodyPost prog f166 (fun e w'=>RS X (0) e w'/\Md d b lp w w') .ret a w2) (fun a w2 hI A6 ha=>by
  obtain ⟨cs,g1,g2,g3⟩:=hI.bx
  obtain ⟨kd,s,f,n,op,A,B,C,m,c,c1,c2,rfl,_⟩:=g2.stmt0
  refine retC results166 ha underlying212 rfl (cs:=stL kd s f n op A m c B 0 c1 C 0 c2) isz8 g1.whole A6 ⟨⟨_,_,_,_,_,_,_,_,_,_,_,_,_,_,rfl,q_ ⟨g2.less (fun q _ hq=>by rw [A0];exact .inl hq),g3⟩⟩,hI.ok,hI.kp.mono (fun q hq A9=>?_)⟩
  rw [A2] at A9
  rcases A9 with h | h
  ·exact h
  omega)
 have c0:=A1.c0;have Af:=A1.lt;have HD:=q_ A1.dice;have Ad:=q_ A1;clear hM hz A8 B0 A5 A4 hC Ae A0 A2;go_enter func166,ntmps166;go_upto_region 1 with fail;rw [<-hW];clear hW;go_upto_region 2 with (go_at_call 26;refine (bf_ d 10 W HD.o d_ d_).mono ?_;rintro e w1 ⟨r,hr,rfl,ht,_⟩);have Ac:=q_ (Ad.o.thrown ht);have Ab:=q_ (ht.kp b);clear c0 Af ht;go_upto_region 3 with fail;refine bg_ (X:=(x1 X1)) (Inv:=(InvR d b lp X1 Z1 w w (ah_ (0)) pS)) (ks:=fun i=>([(kV _ (pt b)),(kSt _ 0),(kAny _)]:List (SK (x1 X1))).getD i (kAny _)) k_ (Aa.o _ Ac.o Ab.o) ?_ ?_
 ·intro i o ho a w hI hout hin
  match i,ho with
  | 0,ho=>cases ho;exact M0_
  | 1,ho=>cases ho;exact rk_simple HC.o rfl H0_ hI
  | 2,ho=>cases ho;exact bj_ (fun _ h=>h) Ag A7.o.1 A7.o.2 rfl (hout 4 d_) (show (kSt _ 0).p w _ from H1_) hI
  | q+3,ho=>exact n_ ho
 intro a w2 hI hsz A6 hout Aj;go_wp2;exact A3.o a w2 hI A6 (hout 4 d_)
theorem stmt_lt (deep D:Nat) (hdeep:deep<=2) (hL:LsOK (deep+1) D):StOK deep (D+1):=by
 intro d b lp X w BH hM hz Bc;obtain ⟨W,hW,AY,Bn,B0⟩:=ag_ w [i_ 0,.string ⟨#[]⟩,.string ⟨#[]⟩,i_ 0,i_ 0,.slice none 0 0,.slice none 0 0,.slice none 0 0] 212;have As:=hM.below AY;have Ax:b<w:=hM.lt;obtain ⟨X1,Ak⟩:∃ X1:NP,X1=fun q=>X q\/q=w:=⟨_,rfl⟩
 obtain ⟨Z1,AE⟩:∃ Z1:NP,Z1=fun q=>Zm d b q\/q=w:=⟨_,rfl⟩
 have A6:=h_ (X1 w/\Z1 w) (⟨by rw [Ak];exact .inr rfl,by rw [AE];exact .inr rfl⟩);have AP:InvR d b lp X1 Z1 w w (ah_ (D+1)) pS W:=⟨As,.of_below AY,fun q hq=>by rw [Ak] at hq;rcases hq with hq | hq;(have:=Bc q hq;omega);omega,_,B0,vts_st (SlP.nil _ _ _ _ _) (SlP.nil _ _ _ _ _) (SlP.nil _ _ _ _ _),pS_st x_ x_ x_ d_ d_⟩;have hC:IC d b lp (x1 X1) (InvR d b lp X1 Z1 w w (ah_ (D+1)) pS):=InvR.ic (fun _ _ _ h=>h) (fun q hq=>by rw [Ak];exact .inl (hz q hq)) (fun q hq=>by rw [AE];exact .inl hq) hM.nz;have AM:=h_ ((∀ q,X1 q->q<W)/\(∀ q,Zm d b q->X1 q)) (⟨AP.lt,fun q hq=>by rw [Ak];exact .inl (hz q hq)⟩);have HC:=q_ hC;have An:=h_ (∀ w',Mk d b lp w'->Kp (Zm d b) W w'->InvR d b lp X1 Z1 w w (ah_ (D+1)) pS w') (fun w' h1 h2=>hC.up W w' AP h1 h2);have A4:=h_ (∀ (a:Act) (w2:World),InvR d b lp X1 Z1 w w (ah_ (D+1)) pS w2->a.defers=[]->a.tmps.getD 4 undef=.pointer (some (a_ w))->bodyPost prog f166 (fun e w'=>RS X (D+1) e w'/\Md d b lp w w') .ret a w2) (fun a w2 hI A0 ha=>by
  obtain ⟨cs,g1,g2,g3⟩:=hI.bx
  obtain ⟨kd,s,f,n,op,A,B,C,m,c,m1,c1,m2,c2,rfl,_⟩:=g2.stmt
  refine retC results166 ha underlying212 rfl (cs:=stL kd s f n op A m c B m1 c1 C m2 c2) isz8 g1.whole A0 ⟨⟨_,_,_,_,_,_,_,_,_,_,_,_,_,_,rfl,q_ ⟨g2.less (fun q _ hq=>by rw [Ak];exact .inl hq),g3⟩⟩,hI.ok,hI.kp.mono (fun q hq Ay=>?_)⟩
  rw [AE] at Ay
  rcases Ay with h | h
  ·exact h
  omega)
 have c0:=As.c0;have A8:=As.lt;have HD:=q_ As.dice;have Bk:=q_ As;clear hM hz Bc B0 AY AP hC Bn Ak AE;have HL:=q_ hL;clear hL;go_enter func166,ntmps166;go_upto_region 1 with fail;rw [<-hW];clear hW;go_upto_region 2 with (go_at_call 26;refine (bf_ d 10 W HD.o d_ d_).mono ?_;rintro e w1 ⟨r,hr,rfl,ht,_⟩);have Ao:=q_ (Bk.o.thrown ht);have AI:=q_ (ht.kp b);clear c0 A8 ht;have BB:¬(3:Int)<=(deep:Int):=by omega
 have Aa:lp<=100+(deep+1):=by omega
 obtain ⟨B3,c1⟩:=Ao.o.c1;have A8:=Ao.o.lt;by_cases hl:B3<2
 ·skip
  go_upto_region 3 with fail;refine bg_ (X:=(x1 X1)) (Inv:=(InvR d b lp X1 Z1 w w (ah_ (D+1)) pS)) (ks:=fun i=>([(kV _ (pt b)),(kSt _ 0),(kAny _)]:List (SK (x1 X1))).getD i (kAny _)) k_ (An.o _ Ao.o AI.o) ?_ ?_
  ·intro i o ho a w hI hout hin
   match i,ho with
   | 0,ho=>cases ho;exact M0_
   | 1,ho=>cases ho;exact rk_simple HC.o rfl H0_ hI
   | 2,ho=>cases ho;exact bj_ (fun _ h=>h) Ax A6.o.1 A6.o.2 rfl (hout 4 d_) (dl_ (d':=D+1) o_ (show (kSt _ 0).p w _ from H1_)) hI
   | q+3,ho=>exact n_ ho
  exact ul_
 by_cases hk5:r<5
 ·have Aw:(r:Int)<5:=by omega
  go_upto_region 3 with fail;refine bg_ (X:=(x1 X1)) (Inv:=(InvR d b lp X1 Z1 w w (ah_ (D+1)) pS)) (ks:=fun i=>([(kV _ (pt b)),(kSt _ 0),(kAny _)]:List (SK (x1 X1))).getD i (kAny _)) k_ (An.o _ Ao.o AI.o) ?_ ?_
  ·intro i o ho a w hI hout hin
   match i,ho with
   | 0,ho=>cases ho;exact M0_
   | 1,ho=>cases ho;exact rk_simple HC.o rfl H0_ hI
   | 2,ho=>cases ho;exact bj_ (fun _ h=>h) Ax A6.o.1 A6.o.2 rfl (hout 4 d_) (dl_ (d':=D+1) o_ (show (kSt _ 0).p w _ from H1_)) hI
   | q+3,ho=>exact n_ ho
  exact ul_
 have Aw:¬(r:Int)<5:=by omega
 go_upto_region 4 with fail;clear c1 A8;go_cut [6] (fun v wx=>∃ s:ByteArray,v=.string s/\s.size<=100/\Hid (Mk d b lp wx)/\Hid (Kp (Zm d b) W wx))
 case first =>
  refine bg_ (X:=⟨Zm d b,fun _=>True⟩) (Inv:=fun w2=>Mk d b lp w2/\Kp (Zm d b) W w2) (ks:=fun i=>([(bu_ ⟨Zm d b,fun _=>True⟩ (3)),(kV ⟨Zm d b,fun _=>True⟩ (pt b)),(kV ⟨Zm d b,fun _=>True⟩ (pt b)),(kV ⟨Zm d b,fun _=>True⟩ (.pointer (some (f_ b 2)))),(kV ⟨Zm d b,fun _=>True⟩ (i_ (lp:Nat))),(kNat ⟨Zm d b,fun _=>True⟩ (3)),(di_ ⟨Zm d b,fun _=>True⟩),(kStr ⟨Zm d b,fun _=>True⟩),(kStr ⟨Zm d b,fun _=>True⟩)]:List (SK ⟨Zm d b,fun _=>True⟩)).getD i (kAny ⟨Zm d b,fun _=>True⟩)) k_ ⟨Ao.o,AI.o⟩ ?_ ?_
  ·have HC:=h_ (IC d b lp ⟨Zm d b,fun _=>True⟩ (fun w2=>Mk d b lp w2/\Kp (Zm d b) W w2)) (⟨fun _ h=>h.1,fun _ h=>h,fun _ h=>h.1.zlt,fun _ _ h h1 h2=>⟨h1,h.2.trans h2⟩,fun _ _ _ _ h=>h⟩);intro i o ho a w hI hout hin
   match i,ho with
   | 0,ho=>cases ho;exact rk_bst3 HC.o rfl d_ d_ d_ hI
   | 1,ho=>cases ho;exact M0_
   | 2,ho=>cases ho;exact cd_ rfl H1_ hI
   | 3,ho=>cases ho;exact cc_ d_ rfl H2_ hI
   | 4,ho=>cases ho;exact rk_load (.inl rfl) rfl H3_ (HC.o.ok w hI).c2 rfl hI
   | 5,ho=>cases ho;exact rk_rem rfl H4_ hI
   | 6,ho=>cases ho;exact rk_idx (n:=3) rfl (show (bu_ _ 3).p w _ from H0_) (show (kNat _ 3).p w _ from H5_) hI
   | 7,ho=>cases ho;exact ep_ rfl (show (di_ _).p w _ from H6_) hI
   | 8,ho=>cases ho;exact bp_ (.inr rfl) (show (kStr _).p w _ from H7_) hI
   | q+9,ho=>exact n_ ho
  intro a w2 hI hsz A0 hout A3;obtain ⟨gs,A9⟩:∃ gs:Nat->Value,∀ t,a.tmps.getD t undef=gs t:=⟨_,fun _=>rfl⟩;obtain ⟨s,hs,hz⟩:(kStr ⟨Zm d b,fun _=>True⟩).p w2 (gs 6):=by rw [<-A9];exact A3 8 _ _ rfl rfl
  have ha:=dn_ (D:=[28,29,30,31,32,33,34,35,6]) hsz A0 t_ hout A9;simp only [List.foldl_cons,List.foldl_nil,Act.put,List.setIfInBounds_toArray,List.set_cons_zero,List.set_cons_succ] at ha;subst ha;go_wp2;go_meet;first | exact ⟨s,rfl,hz,q_ hI.1,q_ hI.2⟩ | exact ⟨s,hs,hz,q_ hI.1,q_ hI.2⟩
 case rest =>
 rename World=>w4
 obtain ⟨s,rfl,hs,Aj,AJ⟩:=hcut;have Au:r=5\/r=6\/r=7\/r=8\/r=9:=by omega
 rcases Au with rfl | rfl | h789
 ·skip
  go_upto_region 7 with fail;refine bg_ (X:=(x1 X1)) (Inv:=(InvR d b lp X1 Z1 w w (ah_ (D+1)) pS)) (ks:=fun i=>([(kV _ (pt b)),(kEx _ 3),(kExs _ dE 1),(kV _ (pt b)),(kV _ (i_ (deep:Nat))),(kV _ (i_ ((deep)+1:Nat))),(kSts _ D 3),(kV _ (pt b)),(kV _ (i_ (deep:Nat))),(kV _ (i_ ((deep)+1:Nat))),(kSts _ D 2),(kSt _ ((D)+1)),(kAny _)]:List (SK (x1 X1))).getD i (kAny _)) k_ (An.o _ Aj.o AJ.o) ?_ ?_
  ·intro i o ho a w hI hout hin
   match i,ho with
   | 0,ho=>cases ho;exact M0_
   | 1,ho=>cases ho;exact ci_ (k:=2) HC.o (cl_ 2 d_) rfl H0_ rfl hI
   | 2,ho=>cases ho;exact dt_ HC.o rfl (bi_ (d':=dE) zq_ (show (kEx _ 3).p w _ from H1_)) hI
   | 3,ho=>cases ho;exact M0_
   | 4,ho=>cases ho;exact bp_ (.inl rfl) (show (kV _ (i_ (deep:Nat))).p w _ from (hout 1 d_)) hI
   | 5,ho=>cases ho;exact rk_inc o_ rfl H4_ hI
   | 6,ho=>cases ho;exact rk_list (n:=2) HC.o HL.o Aa d_ rfl H3_ H5_ rfl hI
   | 7,ho=>cases ho;exact M0_
   | 8,ho=>cases ho;exact bp_ (.inl rfl) (show (kV _ (i_ (deep:Nat))).p w _ from (hout 1 d_)) hI
   | 9,ho=>cases ho;exact rk_inc o_ rfl H8_ hI
   | 10,ho=>cases ho;exact rk_list (n:=1) HC.o HL.o Aa d_ rfl H7_ H9_ rfl hI
   | 11,ho=>cases ho;exact rk_bs_0567 rfl rfl (show (kExs _ dE 1).p w _ from H2_) (show (kSts _ D 3).p w _ from H6_) (show (kSts _ D 2).p w _ from H10_) d_ d_ (fun h=>absurd h d_) hI
   | 12,ho=>cases ho;exact bj_ (fun _ h=>h) Ax A6.o.1 A6.o.2 rfl (hout 4 d_) (dl_ (d':=D+1) o_ (show (kSt _ ((D)+1)).p w _ from H11_)) hI
   | q+13,ho=>exact n_ ho
  exact ul_
 ·skip
  go_upto_region 9 with fail;refine do_ (X:=(x1 X1)) (Inv:=(InvR d b lp X1 Z1 w w (ah_ (D+1)) pS)) (ks:=fun i=>([(bu_ _ 5),(kV _ (pt b)),(kV _ (pt b)),(kV _ (pt b)),(kV _ (pt d)),(kNat _ 3),(di_ _),(kStr _),(kV _ (pt b)),(kV _ (i_ (deep:Nat))),(kV _ (i_ ((deep)+1:Nat))),(kSts _ D 3),(kV _ (pt b)),(kV _ (i_ (deep:Nat))),(kV _ (i_ ((deep)+1:Nat))),(kSts _ D 2),(kSt _ ((D)+1)),(kAny _)]:List (SK (x1 X1))).getD i (kAny _)) rfl k_ (An.o _ (Aj.o.below (Below.drew (b_))) (AJ.o.az_ (Below.drew (b_)))) ?_ ?_
  ·intro i o ho a w hI hout hin
   match i,ho with
   | 0,ho=>cases ho;exact rk_names HC.o rfl hI
   | 1,ho=>cases ho;exact M0_
   | 2,ho=>cases ho;exact cd_ rfl H1_ hI
   | 3,ho=>cases ho;exact cc_ d_ rfl H2_ hI
   | 4,ho=>cases ho;exact bm_ HC.o rfl H3_ hI
   | 5,ho=>cases ho;exact br_ (n:=3) HC.o rfl H4_ rfl d_ d_ hI
   | 6,ho=>cases ho;exact rk_idx (n:=5) rfl (show (bu_ _ 5).p w _ from H0_) (kNat_le d_ (show (kNat _ 3).p w _ from H5_)) hI
   | 7,ho=>cases ho;exact ep_ rfl (show (di_ _).p w _ from H6_) hI
   | 8,ho=>cases ho;exact M0_
   | 9,ho=>cases ho;exact bp_ (.inl rfl) (show (kV _ (i_ (deep:Nat))).p w _ from (hout 1 d_)) hI
   | 10,ho=>cases ho;exact rk_inc o_ rfl H9_ hI
   | 11,ho=>cases ho;exact rk_list (n:=2) HC.o HL.o Aa d_ rfl H8_ H10_ rfl hI
   | 12,ho=>cases ho;exact M0_
   | 13,ho=>cases ho;exact bp_ (.inl rfl) (show (kV _ (i_ (deep:Nat))).p w _ from (hout 1 d_)) hI
   | 14,ho=>cases ho;exact rk_inc o_ rfl H13_ hI
   | 15,ho=>cases ho;exact rk_list (n:=1) HC.o HL.o Aa d_ rfl H12_ H14_ rfl hI
   | 16,ho=>cases ho;exact rk_bs_0167 rfl rfl (show (kStr _).p w _ from H7_) (show (kSts _ D 3).p w _ from H11_) (show (kSts _ D 2).p w _ from H15_) d_ d_ (fun h=>absurd h d_) hI
   | 17,ho=>cases ho;exact bj_ (fun _ h=>h) Ax A6.o.1 A6.o.2 rfl (hout 4 d_) (dl_ (d':=D+1) o_ (show (kSt _ ((D)+1)).p w _ from H16_)) hI
   | q+18,ho=>exact n_ ho
  exact ul_
 have Bt:¬(r:Int)=5:=by omega
 have Bu:¬(r:Int)=6:=by omega
 have c2:=Aj.o.c2;have A8:=Aj.o.lt;have B2:=Aj.o.fz 2;have Ac:((lp+1:Nat):Int)=(lp:Int)+1:=by omega
 have AU:=Aj.o.set2 (lp+1);have AR:=(AJ.o.setCell (p:=(f_ b 2)) (.inl (.inr rfl)) (i_ ((lp+1:Nat):Int)));obtain ⟨V,hV⟩:=ex_ (w4.setCell (f_ b 2) (i_ ((lp+1:Nat):Int)));rw [<-hV] at AU AR;rw [Ac] at hV;have Ap:=q_ AU;have AK:=q_ AR;clear AU AR Ac;go_upto_region 11 with fail;rw [<-hV];clear hV c2 A8 B2 Bt Bu Aw;have Bo:=Ap.o.lt;go_cut [7] (fun v wx=>∃ (g eb:Nat) (s':ByteArray),v=.pointer (some (a_ g))/\s'.size<=100/\Hid (ForV d b (lp+1) V g eb s' wx))
 case first =>
  rename_i J1 K1 hJ1 hK1
  refine fc_ (X:=⟨Zm d b,fun _=>True⟩) (Inv:=(fun w2=>Mk d b (lp+1) w2/\Kp (Zm d b) V w2)) (ks:=fun i=>([(kStr ⟨Zm d b,fun _=>True⟩),(kLf ⟨Zm d b,fun _=>True⟩),(kV ⟨Zm d b,fun _=>True⟩ (pt b)),(kV ⟨Zm d b,fun _=>True⟩ (pt b)),(kV ⟨Zm d b,fun _=>True⟩ (pt b)),(kV ⟨Zm d b,fun _=>True⟩ (pt d)),(kNat ⟨Zm d b,fun _=>True⟩ (5)),(kLf ⟨Zm d b,fun _=>True⟩),(kLf2 ⟨Zm d b,fun _=>True⟩ (V)),(kFor ⟨Zm d b,fun _=>True⟩ (V)),(kVarS ⟨Zm d b,fun _=>True⟩ (V)),(kAny ⟨Zm d b,fun _=>True⟩)]:List (SK ⟨Zm d b,fun _=>True⟩)).getD i (kAny ⟨Zm d b,fun _=>True⟩)) 11 rfl k_ rfl rfl k_ ⟨Ap.o.below (Below.drew (b_)),Kp.of_below (Below.drew (b_))⟩ ?_ ?_
  ·have HC:=h_ (IC d b (lp+1) ⟨Zm d b,fun _=>True⟩ (fun w2=>Mk d b (lp+1) w2/\Kp (Zm d b) V w2)) (⟨fun _ h=>h.1,fun _ h=>h,fun _ h=>h.1.zlt,fun _ _ h h1 h2=>⟨h1,h.2.trans h2⟩,fun _ _ _ _ h=>h⟩);intro i o hne ho a w hI hout hin
   match i,ho,hne with
   | 0,ho,_=>cases ho;exact bp_ (.inl rfl) (show (kStr _).p w _ from ⟨s,hout 6 d_,hs⟩) hI
   | 1,ho,_=>cases ho;exact rk_numl HC.o rfl rfl hI
   | 2,ho,_=>cases ho;exact M0_
   | 3,ho,_=>cases ho;exact cd_ rfl H2_ hI
   | 4,ho,_=>cases ho;exact cc_ d_ rfl H3_ hI
   | 5,ho,_=>cases ho;exact bm_ HC.o rfl H4_ hI
   | 6,ho,_=>cases ho;exact br_ (n:=5) HC.o rfl H5_ rfl d_ d_ hI
   | 7,ho,_=>cases ho;obtain ⟨q,hq⟩:=(cu_ (show (kNat _ 5).p w _ from H6_));exact rk_numl HC.o rfl hq hI
   | 8,ho,_=>cases ho;exact rk_lf2 HC.o (hI.2.size) rfl H1_ H7_ hI
   | 9,ho,_=>cases ho;exact rk_for rfl (show (kStr _).p w _ from H0_) H8_ hI
   | 10,ho,_=>cases ho;exact rk_vars HC.o (hI.2.size) rfl hI
   | 11,_,hne=>exact absurd rfl hne
   | q+12,ho,_=>exact n_ ho
  intro a w2 hI hsz A0 hout A3 K hK;obtain ⟨g,hg,Ba,BF,AF⟩:(kVarS ⟨Zm d b,fun _=>True⟩ V).p w2 (a.tmps.getD 7 undef):=A3 10 _ _ d_ rfl rfl;obtain ⟨s',eb,n1,n2,hv,AG,Bq,BC,B1⟩:(kFor ⟨Zm d b,fun _=>True⟩ V).p w2 (a.tmps.getD 86 undef):=A3 9 _ _ d_ rfl rfl;have hne:g≠eb:=by
   intro e;subst e;have h1:=AF.2.1 0 _ rfl;have h2:=B1.2.1 0 _ rfl;rw [h1] at h2;cases h2
  refine wp_store_mid 212 (.tmp 7) (.tmp 86) rfl g 0 _ hg hv (AF.there (Nat.le_refl 8)) isz8 (by simp [stL,Value.oneCell']) (hK _ _ ?_);have A1:ForV d b (lp+1) V g eb s' (w2.setCells g 0 (stL 5 s' ⟨#[]⟩ 0 0 (some (a_ eb)) 2 2 none 0 0 none 0 0)):=⟨hI.1.sets o_ _,ai_ _ _ _ hI.2 (.inr Ba),Bo,Ba,Bq,hne,AF.all _ rfl,n1,n2,B1.others hne _⟩;obtain ⟨W2,A5⟩:=ex_ (w2.setCells g 0 (stL 5 s' ⟨#[]⟩ 0 0 (some (a_ eb)) 2 2 none 0 0 none 0 0));rw [<-A5] at A1;show (Exit.then _ _) Exit.normal a (w2.setCells g 0 (stL 5 s' ⟨#[]⟩ 0 0 (some (a_ eb)) 2 2 none 0 0 none 0 0))
  rw [<-A5];have A7:=q_ A1;clear A5 A1 AF B1 hv;obtain ⟨gs,A9⟩:∃ gs:Nat->Value,∀ t,a.tmps.getD t undef=gs t:=⟨_,fun _=>rfl⟩;rw [A9] at hg;have ha:=dn_ (D:=[77,78,79,80,81,82,83,84,85,86,7]) hsz A0 t_ hout A9;simp only [List.foldl_cons,List.foldl_nil,Act.put,List.setIfInBounds_toArray,List.set_cons_zero,List.set_cons_succ] at ha;subst ha;refine hK1 _ _ ?_;go_meet;first | exact ⟨g,eb,s',hg,AG,A7⟩ | exact ⟨g,eb,s',rfl,AG,A7⟩
 case rest =>
 rename World=>w5
 obtain ⟨g,eb,s',rfl,AG,AA⟩:=hcut;generalize ((r:Int) == (5:Int))=zz5;go_upto_if 88 with fail;generalize decide (0<deep)=bd;generalize ((r:Int) == (6:Int))=zz6;go_cut [] (fun wx=>Hid (ForV d b (lp+1) V g eb s' wx))
 case first =>
  rename_i J1 K1 hJ1 hK1
  cases bd
  case true =>
   go_upto_region 13 with fail;refine fc_ (X:=⟨Zm d b,fun _=>True⟩) (Inv:=ForV d b (lp+1) V g eb s') (ks:=fun i=>([(kV ⟨Zm d b,fun _=>True⟩ (.pointer (some (f_ g 5)))),(kV ⟨Zm d b,fun _=>True⟩ (.slice (some (a_ eb)) 2 2)),(kV ⟨Zm d b,fun _=>True⟩ (pt b)),(kV ⟨Zm d b,fun _=>True⟩ (pt b)),(kV ⟨Zm d b,fun _=>True⟩ (pt b)),(kV ⟨Zm d b,fun _=>True⟩ (pt d)),(kNat ⟨Zm d b,fun _=>True⟩ (3)),(kLf ⟨Zm d b,fun _=>True⟩),(kV ⟨Zm d b,fun _=>True⟩ (.pointer (some (f_ eb 5)))),(kAny ⟨Zm d b,fun _=>True⟩)]:List (SK ⟨Zm d b,fun _=>True⟩)).getD i (kAny ⟨Zm d b,fun _=>True⟩)) 9 rfl k_ rfl rfl k_ (AA.o.up (AA.o.ok.below (Below.drew (b_))) (Kp.of_below (Below.drew (b_)))) ?_ ?_
   ·have HC:=q_ (ForV.ic (d:=d) (b:=b) (lp:=lp+1) (w0:=V) (g:=g) (eb:=eb) (s:=s'));intro i o hne ho a w hI hout hin
    match i,ho,hne with
    | 0,ho,_=>cases ho;exact rk_fld8 d_ rfl (hout 7 d_) hI
    | 1,ho,_=>cases ho;exact rk_load (.inr (.inr (.inr (.inr (.inr rfl))))) rfl H0_ (hI.bx.2.1 5 _ rfl) rfl hI
    | 2,ho,_=>cases ho;exact M0_
    | 3,ho,_=>cases ho;exact cd_ rfl H2_ hI
    | 4,ho,_=>cases ho;exact cc_ d_ rfl H3_ hI
    | 5,ho,_=>cases ho;exact bm_ HC.o rfl H4_ hI
    | 6,ho,_=>cases ho;exact br_ (n:=3) HC.o rfl H5_ rfl d_ d_ hI
    | 7,ho,_=>cases ho;obtain ⟨q,hq⟩:=(cu_ (show (kNat _ 3).p w _ from H6_));exact rk_numl HC.o rfl hq hI
    | 8,ho,_=>cases ho;exact rk_ix1 rfl H1_ hI
    | 9,_,hne=>exact absurd rfl hne
    | q+10,ho,_=>exact n_ ho
   intro a w2 hI hsz A0 hout A3 K hK;have hg:a.tmps.getD 97 undef=.pointer (some (f_ eb 5)):=A3 8 _ _ d_ rfl rfl;obtain ⟨n,hv⟩:(kLf ⟨Zm d b,fun _=>True⟩).p w2 (a.tmps.getD 96 undef):=A3 7 _ _ d_ rfl rfl;obtain ⟨n1,n2,hb⟩:=hI.be;refine wp_store_mid 209 (.tmp 97) (.tmp 96) rfl eb 5 _ hg hv (hb.there (Nat.le_refl 10)) isz5 (by simp [lfL,exL,Value.oneCell']) (hK _ _ ?_);have A1:=hI.put n;obtain ⟨W2,A5⟩:=ex_ (w2.setCells eb 5 (lfL n));rw [<-A5] at A1;show (Exit.then _ _) Exit.normal a (w2.setCells eb 5 (lfL n))
   rw [<-A5];have A7:=q_ A1;clear A5 A1 hv hg;obtain ⟨gs,A9⟩:∃ gs:Nat->Value,∀ t,a.tmps.getD t undef=gs t:=⟨_,fun _=>rfl⟩;have ha:=dn_ (D:=[89,90,91,92,93,94,95,96,97]) hsz A0 t_ hout A9;simp only [List.foldl_cons,List.foldl_nil,Act.put,List.setIfInBounds_toArray,List.set_cons_zero,List.set_cons_succ] at ha;subst ha;refine hK1 _ _ ?_;go_meet;exact A7
  go_upto_block 99 with fail;go_meet;exact AA
 case rest =>
 rename World=>w6
 have Ad:=hcut;clear hcut AA;obtain ⟨X2,Al⟩:∃ X2:NP,X2=fun k=>X1 k\/k=g:=⟨_,rfl⟩
 have Az:∀ q,Zm d b q->X2 q:=fun q hq=>by rw [Al];exact .inl (AM.o.2 q hq)
 have B7:∀ q,X1 q->X2 q:=fun q hq=>by rw [Al];exact .inl hq
 have BA:(W:Nat)<=V:=AK.o.size;have Bz:(V:Nat)<=w6:=Ad.o.kp.size;have Bb:∀ q,X2 q->q<w6:=fun q hq=>by rw [Al] at hq;rcases hq with hq | hq;(have:=AM.o.1 q hq;omega);(rw [hq];exact Ad.o.bx.1)
 have Bs:=Ad.o.gl;have BD:=Ad.o.el;have Av:¬X2 eb:=fun hq=>by rw [Al] at hq;rcases hq with hq | hq;(have:=AM.o.1 _ hq;omega);exact Ad.o.ne hq.symm
 have AC:=h_ (X2 g) (by rw [Al];exact .inr rfl);have Ar:=q_ Az;have Bd:=q_ B7;have Ai:=q_ Bb;have Bg:=q_ Av;clear Al Az B7 Bb Av;go_upto_region 14 with fail;go_wp2_with fail;rw [show (deep:Int)+1=((deep+1:Nat):Int) from by omega];refine (HL.o d b (lp+1) X2 3 w6 d_ o_ Ad.o.ok Ar.o Ai.o).mono ?_;rintro e w7 ⟨⟨B,m,c,rfl,hm,_,hO⟩,AD⟩;have Ab:=q_ (Ad.o.up AD.ok AD.kp);have g6:=Ab.o.bx.2.1 6 _ rfl;have gf:=Ab.o.bx.2.2 6;have Br:=Ab.o.bx.1;have AV:=(show Md d b (lp+1) V w7 from ⟨Ab.o.ok,Ab.o.kp⟩).new (p:=(f_ g 6)) Bs (by show b<g;omega) (.slice B m c);have AX:=hO.o.kpz (Z:=fun k=>k=g) ((Kp.refl (fun k=>k=g) w7).setCell (p:=(f_ g 6)) (.inl rfl) (.slice B m c)) (fun k hk=>by rw [hk];exact AC.o) (fun k hk=>by rw [hk];exact Ai.o g AC.o);have AN:=Ab.o.bx.set 6 (.slice B m c);obtain ⟨i1,i2,B8⟩:=Ab.o.be;have AO:=B8.far (p:=(f_ g 6)) Ab.o.ne (.slice B m c);obtain ⟨w8,AH⟩:=ex_ (w7.setCell (f_ g 6) (.slice B m c));rw [<-AH] at AV AX AN AO;have Ae:=q_ AV;have Aq:=q_ AX;have B4:=h_ (Bx w8 g (stL 5 s' ⟨#[]⟩ 0 0 (some (a_ eb)) 2 2 B m c none 0 0)) AN;have Bf:=q_ AO;have Be:=h_ ((w6:Nat)<=w8) (by rw [AH];simpa using AD.kp.size);clear hO AD AV AX AN B8 AO;go_upto_region 15 with fail;rw [<-AH];clear AH g6 gf Br;have c0:=Ae.o.ok.c0;have A8:=Ae.o.ok.lt;have Bw:(w6:Nat)<=w8:=Be.o;have Bm:=h_ (∀ (w':World),Mk d b (lp+1) w'->Kp (Zm d b) w8 w'->FinV d b (lp+1) X2 W g D w') (fun w' h1 h2=>by
  have hZ:∀ k,Zm d b k->k<V:=fun k hk=>by have:=Ap.o.zlt k hk;omega
  have hv:=for_vts (Bf.o.kp h2 (fun hk=>by have:=hZ _ hk;omega)) Bg.o AG ((Aq.o.kpz h2 Ar.o (fun k hk=>by have:=hZ k hk;omega)).slP Ai.o o_)
  exact ⟨h1,(AK.o.trans Ae.o.kp).trans h2,_,B4.o.kp h2 (fun hk=>by have:=hZ _ hk;omega),hv.1,hv.2⟩)
 go_cut [112] (fun v wx=>∃ bq:Bool,v=.bool bq/\Hid (Mk d b (lp+1) wx)/\Hid (Kp (Zm d b) w8 wx))
 case first =>
  by_cases h9:r=9
  ·subst h9;go_wp2_with (go_at_call 26;refine (bf_ d 2 w8 Ae.o.ok.dice d_ d_).mono ?_;rintro e w9 ⟨q,hq,rfl,ht,_⟩);go_meet;exact ⟨_,rfl,q_ (Ae.o.ok.thrown ht),q_ (ht.kp b)⟩
  have By:¬(r:Int)=9:=by omega
  go_wp2;go_meet;exact ⟨_,rfl,q_ Ae.o.ok,q_ (Kp.refl _ _)⟩
 case rest =>
 rename World=>w9
 obtain ⟨bq,rfl,B5,B6⟩:=hcut;clear c0 A8;go_upto_if 112 with fail;go_cut [] (fun wx=>Hid (FinV d b (lp+1) X2 W g D wx))
 case first =>
  rename_i J1 K1 hJ1 hK1
  cases bq
  case false =>
   go_upto_block 99 with fail;go_meet;exact q_ (Bm.o _ B5.o B6.o)
  obtain ⟨X4,Am⟩:∃ X4:NP,X4=fun k=>X2 k\/(Value.slice B m c).ownBlock=some k:=⟨_,rfl⟩
  have AB:=h_ (RwF d b X4 X2 w6 g B m c W) (⟨Ar.o,fun k hk=>by rw [Am];exact .inl hk,fun k hk=>by rw [Am] at hk;exact hk,fun k hk=>by rw [Am];exact .inr hk,Ai.o,fun e=>by have:=(Aq.o.blk e).1;have:=Ai.o g AC.o;omega,o_,o_,o_⟩);have Bi:=h_ (∀ w',Below w9 w9 w'->InvW d b (lp+1) X4 W g (stL 5 s' ⟨#[]⟩ 0 0 (some (a_ eb)) 2 2 B m c none 0 0) w6 D B m c w') (fun w' hb=>by
   have hZ:∀ k,Zm d b k->k<V:=fun k hk=>by have:=Ap.o.zlt k hk;omega
   have hk:Kp (Zm d b) w8 w':=B6.o.az_ hb
   have h8:=hk.size
   refine ⟨B5.o.below hb,(AK.o.trans Ae.o.kp).trans hk,fun k hk=>?_,B4.o.kp hk (fun hk=>by have:=hZ _ hk;omega),(Aq.o.kpz hk Ar.o (fun k hk=>by have:=hZ k hk;omega)).re (fun g hg=>(Aq.o.blk hg).1) (fun k _ hk=>?_),o_⟩
   ·rw [Am] at hk
    rcases hk with hk | hk
    ·have:=Ai.o k hk;omega
    have:=(Aq.o.blk hk).2;omega
   rw [Am] at hk;exact hk)
  clear Am;go_upto_region 16 with fail;refine fc_ (X:=⟨X4,EvW X2 D B m c⟩) (Inv:=InvW d b (lp+1) X4 W g (stL 5 s' ⟨#[]⟩ 0 0 (some (a_ eb)) 2 2 B m c none 0 0) w6 D B m c) (ks:=fun i=>([(kStr ⟨X4,EvW X2 D B m c⟩),(kEx ⟨X4,EvW X2 D B m c⟩ (0)),(kV ⟨X4,EvW X2 D B m c⟩ (pt b)),(kV ⟨X4,EvW X2 D B m c⟩ (pt b)),(kV ⟨X4,EvW X2 D B m c⟩ (pt b)),(kV ⟨X4,EvW X2 D B m c⟩ (pt d)),(kNat ⟨X4,EvW X2 D B m c⟩ (4)),(kEx ⟨X4,EvW X2 D B m c⟩ (0)),(kEx ⟨X4,EvW X2 D B m c⟩ (1)),(kExs ⟨X4,EvW X2 D B m c⟩ (dE) (1)),(kV ⟨X4,EvW X2 D B m c⟩ (.pointer (some (f_ g 6)))),(kV ⟨X4,EvW X2 D B m c⟩ (.slice B m c)),(kStr ⟨X4,EvW X2 D B m c⟩),(kStr ⟨X4,EvW X2 D B m c⟩),(kEx ⟨X4,EvW X2 D B m c⟩ (0)),(kEx ⟨X4,EvW X2 D B m c⟩ (0)),(kEx ⟨X4,EvW X2 D B m c⟩ (1)),(kSt ⟨X4,EvW X2 D B m c⟩ (0)),(kSt1 ⟨X4,EvW X2 D B m c⟩ D),(kApp X4 X2 D B m c),(kWhile X4 X2 D B m c),(kAny ⟨X4,EvW X2 D B m c⟩)]:List (SK ⟨X4,EvW X2 D B m c⟩)).getD i (kAny ⟨X4,EvW X2 D B m c⟩)) 21 rfl k_ rfl rfl k_ (Bi.o _ (Below.drew (b_))) ?_ ?_
  ·have HC:=q_ (InvW.ic (D:=D) (CS:=stL 5 s' ⟨#[]⟩ 0 0 (some (a_ eb)) 2 2 B m c none 0 0) (lp:=lp+1) AB.o);intro i o hne ho a w hI hout hin
   match i,ho,hne with
   | 0,ho,_=>cases ho;exact bp_ (.inl rfl) (show (kStr ⟨X4,EvW X2 D B m c⟩).p w _ from ⟨s,hout 6 d_,hs⟩) hI
   | 1,ho,_=>cases ho;exact eq_ HC.o rfl (show (kStr ⟨X4,EvW X2 D B m c⟩).p w _ from H0_) hI
   | 2,ho,_=>cases ho;exact bp_ (.inl rfl) (show (kV ⟨X4,EvW X2 D B m c⟩ (pt b)).p w _ from (hout 0 d_)) hI
   | 3,ho,_=>cases ho;exact cd_ rfl H2_ hI
   | 4,ho,_=>cases ho;exact cc_ d_ rfl H3_ hI
   | 5,ho,_=>cases ho;exact bm_ HC.o rfl H4_ hI
   | 6,ho,_=>cases ho;exact br_ (n:=4) HC.o rfl H5_ rfl d_ d_ hI
   | 7,ho,_=>cases ho;obtain ⟨q,hq⟩:=(cu_ (show (kNat ⟨X4,EvW X2 D B m c⟩ (4)).p w _ from H6_));exact rk_num HC.o rfl hq hI
   | 8,ho,_=>cases ho;exact rk_bin HC.o rfl ⟨_,rfl⟩ (show (kEx ⟨X4,EvW X2 D B m c⟩ (0)).p w _ from H1_) (show (kEx ⟨X4,EvW X2 D B m c⟩ (0)).p w _ from H7_) hI
   | 9,ho,_=>cases ho;exact dt_ HC.o rfl (bi_ (d':=dE) zq_ (show (kEx ⟨X4,EvW X2 D B m c⟩ (1)).p w _ from H8_)) hI
   | 10,ho,_=>cases ho;exact rk_fld8 d_ rfl (hout 7 d_) hI
   | 11,ho,_=>cases ho;exact rk_load (.inr (.inr (.inr (.inr (.inl rfl))))) rfl H10_ (hI.bx.2.1 6 _ rfl) rfl hI
   | 12,ho,_=>cases ho;exact bp_ (.inl rfl) (show (kStr ⟨X4,EvW X2 D B m c⟩).p w _ from ⟨s,hout 6 d_,hs⟩) hI
   | 13,ho,_=>cases ho;exact bp_ (.inl rfl) (show (kStr ⟨X4,EvW X2 D B m c⟩).p w _ from ⟨s,hout 6 d_,hs⟩) hI
   | 14,ho,_=>cases ho;exact eq_ HC.o rfl (show (kStr ⟨X4,EvW X2 D B m c⟩).p w _ from H13_) hI
   | 15,ho,_=>cases ho;exact rk_num HC.o rfl rfl hI
   | 16,ho,_=>cases ho;exact rk_bin HC.o rfl ⟨_,rfl⟩ (show (kEx ⟨X4,EvW X2 D B m c⟩ (0)).p w _ from H14_) (show (kEx ⟨X4,EvW X2 D B m c⟩ (0)).p w _ from H15_) hI
   | 17,ho,_=>cases ho;exact dk_ HC.o rfl (show (kStr ⟨X4,EvW X2 D B m c⟩).p w _ from H12_) (bi_ (d':=dE) zq_ (show (kEx ⟨X4,EvW X2 D B m c⟩ (1)).p w _ from H16_)) hI
   | 18,ho,_=>cases ho;exact rk_st1 HC.o rfl (dl_ (Nat.zero_le _) (show (kSt ⟨X4,EvW X2 D B m c⟩ 0).p w _ from H17_)) hI
   | 19,ho,_=>cases ho;exact rk_app AB.o rfl H11_ H18_ hI
   | 20,ho,_=>cases ho;exact rk_while rfl H9_ H19_ hI
   | 21,_,hne=>exact absurd rfl hne
   | q+22,ho,_=>exact n_ ho
  intro a w2 hI hsz A0 hout A3 K hK;have hg:a.tmps.getD 7 undef=.pointer (some (a_ g)):=hout 7 d_;obtain ⟨A',n',c',E1,ec,hv,h1,h2⟩:(kWhile X4 X2 D B m c).p w2 (a.tmps.getD 133 undef):=A3 20 _ _ d_ rfl rfl;refine wp_store_mid 212 (.tmp 7) (.tmp 133) rfl g 0 _ hg hv (hI.bx.there (Nat.le_refl 8)) isz8 (by simp [stL,Value.oneCell']) (hK _ _ ?_);have Ag:FinV d b (lp+1) X2 W g D (w2.setCells g 0 (stL 6 ⟨#[]⟩ ⟨#[]⟩ 0 0 E1 1 ec A' n' c' none 0 0)):=⟨hI.ok.setsO o_ 0 _,ai_ _ _ _ hI.kp (.inr o_),_,hI.bx.all _ rfl,VTs.up (vts_st (h1.less (fun k _ hk=>AB.o.x2 k hk)) (h2.slP AB.o.x2) (SlP.nil _ _ _ _ _)) (ai_ _ _ _ (Kp.refl _ _) (.inl AC.o)) (l_),pS_st x_ (fun _=>l_) x_ d_ d_⟩;obtain ⟨W2,A5⟩:=ex_ (w2.setCells g 0 (stL 6 ⟨#[]⟩ ⟨#[]⟩ 0 0 E1 1 ec A' n' c' none 0 0));rw [<-A5] at Ag;show (Exit.then _ _) Exit.normal a (w2.setCells g 0 (stL 6 ⟨#[]⟩ ⟨#[]⟩ 0 0 E1 1 ec A' n' c' none 0 0))
  rw [<-A5];have Bh:=q_ Ag;clear A5 Ag hv hg h1 h2;obtain ⟨gs,A9⟩:∃ gs:Nat->Value,∀ t,a.tmps.getD t undef=gs t:=⟨_,fun _=>rfl⟩;have ha:=dn_ (D:=[113,114,115,116,117,118,119,120,121,122,123,124,125,126,127,128,129,130,131,132,133]) hsz A0 t_ hout A9;simp only [List.foldl_cons,List.foldl_nil,Act.put,List.setIfInBounds_toArray,List.set_cons_zero,List.set_cons_succ] at ha;subst ha;refine hK1 _ _ ?_;go_meet;exact Bh
 case rest =>
 rename World=>wE
 have Ah:=hcut;clear hcut;obtain ⟨cs,AZ,B9,Bp⟩:=Ah.o.bx;have c2:=Ah.o.ok.c2;have A8:=Ah.o.ok.lt;have B2:=Ah.o.ok.fz 2;have AW:=Ah.o.ok.set2 lp;have AT:=Kp.setm (X:=Zm d b) Ah.o.kp 2 (i_ lp);have AS:=Kp.setm (X:=Zm d b) (Kp.refl (Zm d b) wE) 2 (i_ lp);have Af:=AZ.kp AS (fun hk=>by have:=Ap.o.zlt _ hk;omega);have A2:=B9.up (AS.mono (fun k _ hk=>Ar.o k hk)) (l_);have BE:=AZ.1;obtain ⟨U,hU⟩:=ex_ (wE.setCell (f_ b 2) (i_ lp));rw [<-hU] at AW AT Af A2;have AQ:=An.o U AW AT;have AL:=q_ (AQ.put Ax A6.o.1 A6.o.2 (A2.less (fun q _ hq=>Bd.o q hq)) Bp);obtain ⟨zs,Ay,Az,Bv⟩:=AQ.bx;have BG:=q_ Af;have IG:=h_ ((prog.info? 212).map (·.size)=some cs.length) (by rw [A2.1,cb_];exact isz8);have BR:=q_ Ay;have LR:=h_ (zs.length=8) (by rw [Az.1,cb_]);have Bj:=h_ (cs.length<=8) (by rw [A2.1,cb_];exact Nat.le_refl 8);have Bl:=q_ A2.one;clear AZ B9 Af A2 AS Ay Az Bv AW AT AQ;go_upto_region 18 with fail;rw [<-hU];clear hU c2 A8 B2;go_wp2_with (first
  | (with_reducible refine ac_ rfl 212 (.tmp 7) rfl _ underlying212 rfl v_ BG.o.whole IG.o ?_)
  | (with_reducible refine ab_ rfl 212 (.tmp 4) (.tmp 141) rfl cs w_ v_ (BR.o.aj_ LR.o Bj.o) IG.o Bl.o ?_)
  | fail)
 exact A4.o _ _ AL.o.1 rfl zc_
end Go.Proofs.YtfolidlmgfhkiaaGreat
namespace Go.Proofs.YtfolidlmgfhkiaaGreat
open Go.RowKit
section
variable {P:Program} {w:World} {t ty et:TypeId} {bytes:Nat} {p:VL->Prop} {e:List CT} {X Y:NP} {K base n m c d:Nat} {A B:OA}
theorem app_full (ty:TypeId) (E:EI P t et e bytes) (hown:OwP w base et p e X K A n c) (hsrc:SlP w X K p e B m d) (hf:m=0\/c<n+m) (hX:∀ k,X k->k<w) (h63:n+m<=maxLen) (hbytes:(n+m)*bytes<=140737488355328) (hbase:base<=w) :
  ∃ A' c' w',(Builtin.append_ #[t,t] ty #[.slice A n c,.slice B m d]).run P w=.ok (.slice A' (n+m) c') w'/\OwP w' base et p e X K A' (n+m) c'/\Below w w w':=by
 obtain ⟨i,z,hi,hz,A0,A5,A7⟩:=E.hi;have hO:=hown;obtain ⟨xs,h1,h2⟩:=hown;obtain ⟨news,n1,n2,n3,n4,n5⟩:=hsrc.news;by_cases hm:m=0
 ·subst hm;exact ⟨A,c,w,cv_ (P:=P) w t ty et i E.ht hi A n c (ck_ h1).1 B d,hO,b_⟩
 obtain ⟨ad,rfl⟩:∃ ad,B=some ad:=by
  cases B with
  | none=>exact absurd (n2 rfl) hm
  | some ad=>exact ⟨ad,rfl⟩
 obtain ⟨A',c',w',hr,g1,g2,g3⟩:=dd_ (P:=P) w base t ty et i z e.length bytes E.ht hi hz A0 A5 A7 E.hsz _ n xs h1 (some ad) m d news n2 n1 n3 n4 h63 hbytes hbase;have A1:Below w w w'/\∀ g,(Value.slice A' (n+m) c').ownBlock=some g->g=w:=by
  rcases h1.2 with ⟨hA,hn⟩ | ⟨g,cap,cur,hv,hbg,hg,hnc,hcm,hcs,htake⟩
  ·injection hA with q1 q2 q3;subst q1 q2 q3;exact ⟨al_ g2 (l_) (fun k hk=>by cases hk),fun g hg=>by rcases g3 g hg with h | h;cases h;exact h⟩
  injection hv with q1 _ q3;subst q1 q3;have A3:∀ j u,xs[j]?=some u->w.cell? (((a_ g):Addr).add j)=some u:=h1.cells (g:=g) rfl;have A6:=run_append_grow (P:=P) w t ty et i z E.ht hi hz (a_ g) n c xs (by rw [A0];exact h1.1) A3 ad m d news (by rw [A0];exact n1) (n3 ad rfl) o_ (by unfold maxLen at h63;omega) (by rw [A5];exact growslice_fits o_ hbytes);rw [A6] at hr;injection hr with e1 e2;injection e1 with e1 e3 e4;refine ⟨by rw [<-e2];exact (Below.drew (b_)).alloc (l_) _,fun g' A4=>?_⟩;rw [<-e1] at A4;injection A4 with A4;exact A4.symm
 refine ⟨A',c',w',hr,⟨xs ++ news,g1,fun k hk=>?_⟩,A1.1⟩;have A2:xs.length=n*e.length:=h1.1;by_cases hkn:k<n
 ·obtain ⟨vs,v1,v2,v3⟩:=h2 k hkn;refine ⟨vs,v1.kept (.of_below A1.1) (fun q hq h3 h4=>?_) (l_),fun j u hu=>by rw [List.getElem?_append_left (e_ (v2 j u hu)).1];exact v2 j u hu,v3⟩;rcases h4 with h4 | h4
  ·exact h3 (.inl h4)
  have:=A1.2 q h4;omega
 obtain ⟨vs,v1,v2,v3⟩:=n5 (k - n) o_;refine ⟨vs,v1.kept (.of_below A1.1) (fun q hq h3 h4=>?_) (l_),fun j u hu=>?_,v3⟩
 ·rcases h4 with h4 | h4
  ·exact h3 h4
  have:=A1.2 q h4;omega
 have e1:k*e.length=n*e.length+(k - n)*e.length:=by rw [<-Nat.add_mul];congr 1;omega
 rw [List.getElem?_append_right (by rw [A2];omega),A2,show k*e.length+j - n*e.length=(k - n)*e.length+j from by omega];exact v2 j u hu
end
theorem OwP.le {w:World} {base D D' n c:Nat} {et:TypeId} {X:NP} {A:OA} (h:OwP w base et pS (ah_ D) X 20 A n c) (hD:D<=D'):OwP w base et pS (ah_ D') X 20 A n c:=by
 obtain ⟨xs,ho,hx⟩:=h;refine ⟨xs,by rw [cb_] at ho ⊢;exact ho,fun k hk=>?_⟩;obtain ⟨vs,h1,h2,h3⟩:=hx k hk;exact ⟨vs,stmtT_le hD h1 h3,fun j u hu=>by have:=h2 j u hu;rw [cb_] at this ⊢;exact this,h3⟩
theorem OwP.lit {w:World} {X:NP} {p:VL->Prop} {e:List CT} {K n:Nat} (et:TypeId) (vss:List (VL)) (hn:vss.length=n) (hn0:0<n) (hm:n<=maxLen) (hv:∀ vs ∈ vss,VTs w X K e vs/\p vs) (hlt:∀ k,X k->k<w) :
  OwP (w.alloc (.cells vss.flatten.toArray et)) w et p e X K (some (a_ w)) n n:=by
 have A1:∀ (l:List (VL)),(∀ vs ∈ l,vs.length=e.length)->l.flatten.length=l.length*e.length:=by
  intro l
  induction l with
  | nil=>intro _;simp
  | cons a r ih =>
   intro h;rw [List.flatten_cons,List.length_append,h a (.head _),ih (fun vs A0=>h vs (.tail _ A0)),List.length_cons,Nat.add_mul,Nat.one_mul,Nat.add_comm]
 have A3:∀ (l:List (VL)),(∀ vs ∈ l,vs.length=e.length)->∀ (k j:Nat) (vs:VL) (u:Value),l[k]?=some vs->vs[j]?=some u->l.flatten[k*e.length+j]?=some u:=by
  intro l
  induction l with
  | nil=>intro _ k j vs u hk;simp at hk
  | cons a r ih =>
   intro h k j vs u hk hj;rw [List.flatten_cons];cases k with
   | zero =>
    simp at hk;subst hk;rw [Nat.zero_mul,Nat.zero_add,List.getElem?_append_left (e_ hj).1];exact hj
   | succ k =>
    rw [List.getElem?_append_right (by rw [h a (.head _),Nat.succ_mul];omega),h a (.head _),show (k+1)*e.length+j - e.length=k*e.length+j from by rw [Nat.succ_mul];omega];exact ih (fun vs A0=>h vs (.tail _ A0)) k j vs u (by simpa using hk) hj
 have hl:∀ vs ∈ vss,vs.length=e.length:=fun vs A0=>(hv vs A0).1.1
 refine ⟨vss.flatten,⟨by rw [A1 vss hl,hn],.inr ⟨w,n,vss.flatten.toArray,rfl,l_,heap_new w _,l_,hm,by rw [List.size_toArray,A1 vss hl,hn],?_⟩⟩,fun k hk=>?_⟩
 ·show vss.flatten.take _=_
  exact List.take_of_length_le (by rw [A1 vss hl,hn];exact l_)
 obtain ⟨vs,A0⟩:∃ vs,vss[k]?=some vs:=⟨_,ge_ o_⟩;have A2:=List.mem_of_getElem? A0;refine ⟨vs,?_,fun j u hu=>A3 vss hl k j vs u A0 hu,(hv vs A2).2⟩;refine (hv vs A2).1.kept (.of_below ((b_).alloc (l_) _)) (fun q hq h1 h2=>?_) (l_);rcases h2 with h2 | h2
 ·exact h1 h2
 injection h2 with h2;have:w=q:=h2;omega
end Go.Proofs.YtfolidlmgfhkiaaGreat
namespace Go.Proofs.YtfolidlmgfhkiaaGreat
open Go.RowKit Go.Proofs.Tryz
structure InvP (d b:Nat) (X:NP) (w0:World) (J:World->Prop) (w:World):Prop where
 ok:Mk d b 0 w
 kp:Kp (Zm d b) w0 w
 lt:∀ k,X k->k<w
 j:J w
section
variable {d b:Nat} {X:XE} {w0 w w':World} {J:World->Prop}
theorem InvP.ic (hz:∀ k,Zm d b k->X k) (hJ:∀ w w',Kp (Zm d b) w w'->J w->J w') (hE:∀ w,X.e w):IC d b 0 X (InvP d b X w0 J) :=
 ⟨fun _ h=>h.ok,hz,fun _ h=>h.lt,fun w w' h hm hk=>⟨hm,h.kp.trans hk,fun k A0=>lt_ (h.lt k A0) hk.size,hJ _ _ hk h.j⟩,fun _ w' _ _ _=>hE w'⟩
def kOt (X:XE) (B:Nat) (hB:∀ k,X k->k<B) (D q:Nat):SK X:=⟨fun w u=>∃ A n c,u=.slice A n c/\n<=q/\(n=0->A=none)/\OwP w B 212 pS (ah_ D) X 20 A n c,fun w w' u hk _ ⟨A,n,c,e,hq,h0,h⟩=>⟨A,n,c,e,hq,h0,h.kept hk hB⟩⟩
def kOl (X:XE) (B:Nat) (hB:∀ k,X k->k<B) (D k:Nat):SK X:=⟨fun w u=>∃ A,u=.slice A k k/\OwP w B 212 pS (ah_ D) X 20 A k k,fun w w' u hk _ ⟨A,e,h⟩=>⟨A,e,h.kept hk hB⟩⟩
def kFn (X:XE) (B:Nat) (hB:∀ k,X k->k<B) (S:ByteArray) (D q:Nat):SK X:=⟨fun w u=>∃ P np cp A n c,u=.agg #[.string S,.slice P np cp,.slice A n c]/\SlT w X 20 [.sat strP] P np cp/\n<=q/\(n=0->A=none)/\OwP w B 212 pS (ah_ D) X 20 A n c,fun w w' u hk _ ⟨P,np,cp,A,n,c,e,h1,hq,h0,h⟩=>⟨P,np,cp,A,n,c,e,h1.up hk (l_),hq,h0,h.kept hk hB⟩⟩
def zfn:VL:=[.string ⟨#[]⟩,.slice none 0 0,.slice none 0 0]
def kVarF (X:XE) (B:Nat):SK X:=⟨fun w u=>∃ g,u=.pointer (some (a_ g))/\B<=g/\¬X g/\Bx w g zfn,fun w w' u hk _ ⟨g,e,hB,hX,hb⟩=>⟨g,e,hB,hX,hb.kp hk hX⟩⟩
end
section
variable {Q:Exit->Act->World->Prop} {X:XE} {Inv:World->Prop} {o:Oper} {a:Act} {w:World} {d b lp:Nat} {x y z:Operand}
theorem rk_listo {deep D n B:Nat} {hB:∀ k,X k->k<B} (hBw:B<=w) (hC:IC d b lp X Inv) (hL:LsOK deep D) (hlp:lp<=100+deep) (hn:n<=6) (ho:o.op=.call { callee:=.value (.func 113),args:=#[x,y,z],argTypes:=#[203,3,3] }) (hx:a.eval x=.pointer (some (a_ b))) (hy:a.eval y=i_ deep) (hz:a.eval z=i_ n) (hI:Inv w):RnK prog Q X Inv (kOt X B hB D (n+1)) o a w:=by
 have hf:a.eval (.func 113)=.func (.func 113) #[] #[]:=rfl;generalize hr:a.eval=r at hx hy hz hf;refine cm_ (f:=113) (args:=#[.pointer (some (a_ b)),i_ deep,i_ n]) xp_ ((hL d b lp X n w hn hlp (hC.ok w hI) hC.zx (hC.lt w hI)).mono ?_);rintro e w' ⟨⟨A,m,c,rfl,hm,h0,h⟩,hb⟩;exact ⟨_,rfl,hb.kp.mono (fun q _ hq=>hC.zx q hq),hC.ex w w' hI hb.kp,hC.up w w' hI hb.ok hb.kp,A,m,c,rfl,hm,h0,h.o.mono hBw⟩
theorem rk_ol1 {D B:Nat} {hB:∀ k,X k->k<B} (hBw:B<=w) (hC:IC d b lp X Inv) (ho:o.op=.buildSlice 192 1 #[(0,x)]) (hx:(kSt X D).p w (a.eval x)) (hI:Inv w):RnK prog Q X Inv (kOl X B hB D 1) o a w:=by
 obtain ⟨kd,s,f,n,op,A,m,c,B1,m1,c1,C,m2,c2,hx,h1⟩:=hx;generalize hr:a.eval=r at hx;refine rk_to (v:=.slice (some (a_ w)) 1 1) (w':=w.alloc (.cells (stL kd s f n op A m c B1 m1 c1 C m2 c2).toArray 212)) xz_ (.of_below (ax_ w _ _)) (hC.ex w _ hI (.of_below (ax_ w _ _))) ?_ (hC.below hI (ax_ w _ _));have:=OwP.lit (n:=1) (w:=w) (X:=X) (p:=pS) (e:=ah_ D) (K:=20) 212 [stL kd s f n op A m c B1 m1 c1 C m2 c2] rfl d_ d_ (fun vs hv=>by rw [List.mem_singleton] at hv;subst hv;exact h1) (hC.lt w hI);exact ⟨_,rfl,OwP.mono (by simpa using this) hBw⟩
theorem rk_appf {D B k m d':Nat} {hB:∀ k,X k->k<B} {C:OA} (hBw:B<=w) (hC:IC d b lp X Inv) (hk:0<k) (hm:k+m<=19) (ho:o.op=.call { callee:=.builtin .append,args:=#[x,y],argTypes:=#[192,192] }) (hx:(kOl X B hB D k).p w (a.eval x)) (hy:a.eval y=.slice C m d') (hs:SlP w X 20 pS (ah_ D) C m d') (hI:Inv w):RnK prog Q X Inv (kOt X B hB D (k+m)) o a w:=fun K hK=>by
 obtain ⟨A,hx,hO⟩:=hx;obtain ⟨A',c',w',hr,o6,hb⟩:=app_full o.type ei_stmt hO hs o_ (hC.lt w hI) m_ o_ hBw;unfold Oper.wp execOp;simp only [ho,resolve,invoke,builtin,Sem.run_bind,Sem.run_pure,Result.andThen_ok,List.map_toArray,List.map_cons,List.map_nil,hx,hy,hr];exact hK _ _ (.of_below hb) (hC.ex w w' hI (.of_below hb)) (hC.below hI hb) ⟨A',k+m,c',rfl,l_,fun h=>o_,o6⟩
theorem kOt_le {B D q q':Nat} {hB:∀ k,X k->k<B} {v:Value} (hq:q<=q') (h:(kOt X B hB D q).p w v):(kOt X B hB D q').p w v:=by
 obtain ⟨A,n,c,e,hn,h0,h⟩:=h;exact ⟨A,n,c,e,o_,h0,h⟩
theorem kOt_d {B D D' q:Nat} {hB:∀ k,X k->k<B} {v:Value} (hD:D<=D') (h:(kOt X B hB D q).p w v):(kOt X B hB D' q).p w v:=by
 obtain ⟨A,n,c,e,hn,h0,h⟩:=h;exact ⟨A,n,c,e,hn,h0,h.le hD⟩
theorem rk_first {D B q:Nat} {hB:∀ k,X k->k<B} (hBw:B<=w) (hC:IC d b lp X Inv) (hq:q<=9) (ho:o.op=.call { callee:=.value (.func 115),args:=#[x,y],argTypes:=#[192,188] }) (hx:(kOt X B hB D q).p w (a.eval x)) (hy:(bu_ X 3).p w (a.eval y)) (hI:Inv w):RnK prog Q X Inv (kOt X B hB D (q+8)) o a w:=by
 obtain ⟨A,n,c,hx,hn,h0,hO⟩:=hx;obtain ⟨g,hy,hg,A1,hc⟩:=hy;have hf:a.eval (.func 115)=.func (.func 115) #[] #[]:=rfl;generalize hr:a.eval=r at hx hy hf;refine cm_ (f:=115) (args:=#[.slice A n c,.slice (some (a_ g)) 3 3]) yc_ ((first_m X D A n c g w (hC.lt w hI) (hO.slP hB o_) o_ hg A1 hc).mono ?_);rintro e w' ⟨⟨A',m,c',rfl,hm,A0,h⟩,hb⟩;exact ⟨_,rfl,.of_below hb,hC.ex w w' hI (.of_below hb),hC.below hI hb,A',m,c',rfl,o_,A0,h.o.mono hBw⟩
theorem rk_fn2 {D B q:Nat} {S:ByteArray} {hB:∀ k,X k->k<B} (ho:o.op=.build 194 #[(0,.const (.string S)),(2,x)]) (hx:(kOt X B hB D q).p w (a.eval x)) (hI:Inv w):RnK prog Q X Inv (kFn X B hB S D q) o a w:=by
 obtain ⟨A,n,c,hx,hn,h0,hO⟩:=hx;have e0:a.eval (.const (.string S))=.string S:=rfl;generalize hr:a.eval=r at hx e0;exact bs_ (v:=.agg #[.string S,.slice none 0 0,.slice A n c]) yv_ ⟨none,0,0,A,n,c,rfl,⟨Nat.zero_le _,l_,o_,fun _=>⟨rfl,rfl⟩,fun _ h=>by cases h⟩,hn,h0,hO⟩ hI
theorem rk_fn3 {D B q k:Nat} {S:ByteArray} {hB:∀ k,X k->k<B} (hk:k<=20) (ho:o.op=.build 194 #[(0,.const (.string S)),(1,y),(2,x)]) (hy:(bu_ X k).p w (a.eval y)) (hx:(kOt X B hB D q).p w (a.eval x)) (hI:Inv w):RnK prog Q X Inv (kFn X B hB S D q) o a w:=by
 obtain ⟨A,n,c,hx,hn,h0,hO⟩:=hx;obtain ⟨g,hy,hg,A0,hc⟩:=hy;have e0:a.eval (.const (.string S))=.string S:=rfl;generalize hr:a.eval=r at hx hy e0;exact bs_ (v:=.agg #[.string S,.slice (some (a_ g)) k k,.slice A n c]) xv_ ⟨_,k,k,A,n,c,rfl,slt_strs hg A0 hk hc,hn,h0,hO⟩ hI
theorem rk_varf {B:Nat} (hC:IC d b lp X Inv) (hB:B<=w) (ho:o.op=.alloc 194) (hI:Inv w):RnK prog Q X Inv (kVarF X B) o a w:=by
 refine rk_to (v:=.pointer (some (a_ w))) (w':=w.alloc (.cells zfn.toArray 194)) (by simp [execOp,ho,go_sem,zfn]) (.of_below (ax_ w _ _)) (hC.ex w _ hI (.of_below (ax_ w _ _))) ?_ (hC.below hI (ax_ w _ _));exact ⟨_,rfl,hB,fun h=>by have:=hC.lt w hI _ h;omega,Bx.new w _ _⟩
theorem rk_fldf {x:Operand} {g f:Nat} (hf:f<3) (ho:o.op=.fieldAddr 194 x f) (hx:a.eval x=.pointer (some (a_ g))) (hI:Inv w):RnK prog Q X Inv (kV X (.pointer (some (f_ g f)))) o a w:=by
 generalize hr:a.eval=r at hx;refine bs_ (v:=.pointer (some (f_ g f))) ?_ rfl hI;rw [hr]
 match f,hf with
 | 0,_=>simp [execOp,ho,hx,go_sem]
 | 1,_=>simp [execOp,ho,hx,go_sem]
 | 2,_=>simp [execOp,ho,hx,go_sem]
theorem rk_lst8 {x:Operand} {g D:Nat} {cs:VL} (ho:o.op=.load 212 x) (hx:a.eval x=.pointer (some (a_ g))) (hb:Bx w g cs) (hv:VTs w X 20 (ah_ (D+1)) cs) (hp:pS cs) (hI:Inv w):RnK prog Q X Inv (kSt X (D+1)) o a w:=fun K hK=>by
 obtain ⟨kd,s,f,n,op,A,B,C,m,c,m1,c1,m2,c2,rfl,_⟩:=hv.stmt;refine wp_load_mid 212 x ho g 0 hx _ _ hb.whole underlying212 rfl isz8 (hK _ _ (Kp.refl _ _) (fun h=>h) hI ⟨kd,s,f,n,op,A,m,c,B,m1,c1,C,m2,c2,rfl,hv,hp⟩)
end
structure FnC (w:World) (A:OA) (k:Nat) (s:ByteArray) (P:OA) (np cp:Nat) (B:OA) (nb cb g o:Nat):Prop where
 hA:A=some (f_ g o)
 lt:g<w
 k0:w.cell? ⟨g,o+k*3,none⟩=some (.string s)
 k1:w.cell? ⟨g,o+k*3+1,none⟩=some (.slice P np cp)
 k2:w.cell? ⟨g,o+k*3+2,none⟩=some (.slice B nb cb)
theorem FnC.up {w w':World} {A:OA} {k:Nat} {s:ByteArray} {P:OA} {np cp:Nat} {B:OA} {nb cb g o:Nat} (h:FnC w A k s P np cp B nb cb g o) (hb:Below w w w'):FnC w' A k s P np cp B nb cb g o:=by
 have hc:∀ j,w'.cell? (f_ g j)=w.cell? (f_ g j):=fun j=>belc hb h.lt
 exact ⟨h.hA,lt_ h.lt hb.size,(hc _).trans h.k0,(hc _).trans h.k1,(hc _).trans h.k2⟩
theorem SlT.fn {d:Nat} {X:NP} {w:World} {K:Nat} {A:OA} {n c k:Nat} (h:SlT w X K (db_ d) A n c) (hk:k<n):∃ (s:ByteArray) (P:OA) (np cp:Nat) (B:OA) (nb cb g o:Nat),FnC w A k s P np cp B nb cb g o/\s.size<=100/\SlT w X K [.sat strP] P np cp/\SlP w X K pS (ah_ d) B nb cb/\¬X g:=by
 obtain ⟨g,o,rfl,hg,hX,vs,hv,hm⟩:=h.mt hk;obtain ⟨a,r1,rfl,ha,h1⟩:=hv.head;obtain ⟨b,r2,rfl,hb,h2⟩:=h1.head;obtain ⟨x,r3,rfl,hx,h3⟩:=h2.head;obtain ⟨s,rfl,hs⟩:strP a:=by cases ha;assumption
 obtain ⟨P,np,cp,rfl,hP⟩:=hb.slice;obtain ⟨B,nb,cb,rfl,hB⟩:=hx.dm_;exact ⟨s,P,np,cp,B,nb,cb,g,o,⟨rfl,hg,by have:=hm 0 _ rfl;simpa [db_] using this,by have:=hm 1 _ rfl;simpa [db_] using this,by have:=hm 2 _ rfl;simpa [db_] using this⟩,hs,hP,hB,hX⟩
theorem Shaped_t (X:NP) (K:Nat) (hK:K<=900000000) (d:Nat) (A:OA) (n c:Nat) (w:World) (h:SlT w X K (db_ d) A n c) :
  Calls prog 159 #[.agg #[.slice A n c]] w fun e w'=>RI e/\Below w w w':=by
 obtain ⟨W,hW,A9,Ag,B0⟩:=ag_ w [.slice A n c] 136;have Ae:=q_ B0;have HW:=q_ A9;have H:=q_ h;have Al:=h.le;have x0:=B0.2.1 0 _ rfl;clear B0 A9 h;go_enter func159,ntmps159;go_upto_region 1 with fail;rw [<-hW];clear hW;go_cut [3] (fun v wx=>∃ b:Bool,v=.bool b/\Hid (wx=W))
 case first =>
  go_wp2;all_goals
   go_meet;exact ⟨_,rfl,q_ rfl⟩
 case rest =>
 rename World=>W1
 obtain ⟨bl,rfl,Ab⟩:=hcut;have hw:=Ab.o;subst hw;clear Ab;go_upto_region 4 with fail;clear x0;go_loopw [3,4,25] (fun b a i wr=>∃ (k:Nat) (p:Bool) (q:Int),k<=n/\b=.bool p/\a=i_ q/\i=i_ k/\Hid (Below W1 W1 wr)) (fun _ _ i _=>n - (intOf i).toNat)
 case atStart=>exact ⟨0,bl,0,o_,rfl,rfl,rfl,q_ (b_)⟩
 obtain ⟨k,p,q,Ak,rfl,rfl,rfl,HR⟩:=hrel;have A2:=q_ (HW.o.trans (HR.o.mono HW.o.size));by_cases hlt:k<n
 ·have A5:(k:Int)<(n:Int):=by omega
  obtain ⟨s,P,np,cp,B,nb,cb,g,o,Aa,hs,hP,hB,_⟩:=H.o.fn hlt;obtain ⟨rfl,hg,k0,k1,k2⟩:=Aa.up A2.o;obtain ⟨V,hV,A3,Af,B1⟩:=ag_ wr [.string s,.slice P np cp,.slice B nb cb] 194;have A0:=q_ (A2.o.trans (A3.mono A2.o.size));have A6:=q_ (HR.o.trans (A3.mono HR.o.size));have KC:=h_ (∀ w',Below V V w'->(w'.cell? (a_ wr)=some (.string s)/\w'.cell? (f_ wr 1)=some (.slice P np cp)/\w'.cell? (f_ wr 2)=some (.slice B nb cb))) (fun w' hb=>⟨(B1.below hb).2.1 0 _ rfl,(B1.below hb).2.1 1 _ rfl,(B1.below hb).2.1 2 _ rfl⟩);have Ac:=hP.le;have HP:=q_ hP;have HB:=q_ hB;clear B1 A3 Aa hP hB;go_upto_region 6 with fail;rw [<-hV];clear hV k0 k1 k2;obtain ⟨x0,x1,x2⟩:=KC.o V (b_);go_wp2_with fail;refine (Name05_any s V hs).mono ?_;rintro e W2 ⟨⟨b,rfl⟩,A8⟩;have H2:=q_ A8;clear x0 x1 x2 A8;obtain ⟨x0,x1,x2⟩:=KC.o W2 H2.o;cases b
  case false =>
   go_wp2;go_ret;exact ⟨⟨_,rfl⟩,A0.o.trans (H2.o.mono A0.o.size)⟩
  case true =>
  go_upto_region 9 with fail;clear x0 x1 x2;go_loopw [36] (fun i wy=>∃ j:Nat,j<=np/\i=i_ j/\Hid (Below V V wy)) (fun i _=>np - (intOf i).toNat)
  case atStart=>exact ⟨0,o_,rfl,H2⟩
  rename World=>wy
  obtain ⟨j,Aj,rfl,HY⟩:=hrel;have A7:=q_ (A0.o.trans (HY.o.mono A0.o.size));by_cases hlj:j<np
  ·have A4:(j:Int)<(np:Int):=by omega
   obtain ⟨gp,op,rfl,Ai,Ah,us,hv,hm⟩:=(HP.o.up (Kp.of_below A7.o) (l_)).mt hlj;obtain ⟨u,hu,ht⟩:=hv.2 0 (.sat strP) rfl;obtain ⟨t,rfl,Ad⟩:strP u:=by cases ht;assumption
   have y0:wy.cell? ⟨gp,op+j,none⟩=some (.string t):=by have:=hm 0 _ hu;simpa using this
   clear hv hm hu ht;go_wp2_with fail;refine (Name05_any t wy Ad).mono ?_;rintro e W3 ⟨⟨b,rfl⟩,A1⟩;have H3:=q_ (HY.o.trans (A1.mono HY.o.size));clear A1 y0;cases b
   case false =>
    exact ta_
   go_wp2;go_roundw
   case rel=>exact ⟨j+1,o_,za_,H3⟩
   case measure=>exact me_
  have A4:¬(j:Int)<(np:Int):=by omega
  obtain ⟨x0,x1,x2⟩:=KC.o wy HY.o;go_wp2_with fail;refine (measure_any X K hK d B nb cb wy (HB.o.below A7.o)).mono ?_;rintro e W3 ⟨⟨a1,b1,o1,rfl⟩,A1⟩;have H3:=q_ (HY.o.trans (A1.mono HY.o.size));clear x0 x1 x2 A1;obtain ⟨x0,x1,x2⟩:=KC.o W3 H3.o;cases o1
  case false =>
   exact ta_
  go_wp2;all_goals
   go_roundw
   case rel=>exact ⟨k+1,_,_,o_,rfl,rfl,za_,q_ (A6.o.trans (H3.o.mono A6.o.size))⟩
   case measure=>exact me_
 have A5:¬(k:Int)<(n:Int):=by omega
 go_wp2;all_goals
  go_ret;exact ⟨⟨_,rfl⟩,A2.o⟩
def nameAt (w:World) (A:OA) (q:Nat) (s:ByteArray):Prop:=∃ g o,A=some (f_ g o)/\w.cell? ⟨g,o+q*3,none⟩=some (.string s)
def RIx (n:Nat) (want:Prop) (e:Ending):Prop:=∃ r:Int,e=.returned (i_ r)/\(r=-1\/∃ k:Nat,r=k/\k<n)/\Hid (want->r≠-1)
theorem Index_t (X:NP) (K:Nat) (hK:K<=900000000) (d:Nat) (A:OA) (n c:Nat) (s:ByteArray) (w:World) (h:SlT w X K (db_ d) A n c) :
  Calls prog 160 #[.agg #[.slice A n c],.string s] w fun e w'=>RIx n (∃ q,q<n/\nameAt w A q s) e/\Below w w w':=by
 obtain ⟨W,hW,A4,A5,B0⟩:=ag_ w [.slice A n c] 136;have HW:=q_ A4;have H:=q_ h;have A7:=h.le;have x0:=B0.2.1 0 _ rfl;clear B0 A4 h;go_enter func160,ntmps160;go_upto_region 2 with fail;rw [<-hW];clear hW x0;go_loopw [10] (fun i wr=>∃ k:Nat,k<=n/\i=i_ k/\Hid (Below W W wr)/\Hid ((∃ q,q<n/\nameAt w A q s)->∃ q,k<=q/\q<n/\nameAt w A q s)) (fun i _=>n - (intOf i).toNat)
 case atStart=>exact ⟨0,o_,rfl,q_ (b_),q_ (fun ⟨q,h1,h2⟩=>⟨q,Nat.zero_le _,h1,h2⟩)⟩
 obtain ⟨k,A6,rfl,HR,HN⟩:=hrel;have A0:=q_ (HW.o.trans (HR.o.mono HW.o.size));have A9:(W:Nat)<=wr:=HR.o.size;have A8:(w:Nat)<=wr:=A0.o.size;by_cases hlt:k<n
 ·have A3:(k:Int)<(n:Int):=by omega
  obtain ⟨t,P,np,cp,B,nb,cb,g,o,A2,hs,hP,hB,_⟩:=H.o.fn hlt;have HF:=q_ A2;obtain ⟨rfl,hg,k0,k1,k2⟩:=A2.up A0.o;clear A2 hP hB;have A1:(t.toList == s.toList)=true\/(t.toList == s.toList)=false:=by cases (t.toList == s.toList);exact .inr rfl;exact .inl rfl
  rcases A1 with A1 | A1
  ·go_wp2;go_ret;exact ⟨⟨_,rfl,.inr ⟨k,rfl,hlt⟩,q_ (fun _=>o_)⟩,(bel A0.o)⟩
  have HT:=q_ A1;go_wp2;go_roundw
  case rel =>
   refine ⟨k+1,o_,za_,q_ (bel HR.o),q_ (fun hq=>?_)⟩;obtain ⟨q,h1,h2,h3⟩:=HN.o hq;refine ⟨q,?_,h2,h3⟩;rcases Nat.lt_or_ge k q with h4 | h4
   ·exact h4
   exfalso;obtain rfl:q=k:=by omega
   obtain ⟨g',o',e1,e2⟩:=h3;injection e1 with e1;injection e1 with e3 e4;subst e3 e4;rw [HF.o.k0] at e2;injection e2 with e2;injection e2 with e2;subst e2;have:=HT.o;simp at this
  case measure=>exact me_
 have A3:¬(k:Int)<(n:Int):=by omega
 go_wp2;go_ret;exact ⟨⟨_,rfl,.inl rfl,q_ (fun hq=>by obtain ⟨q,h1,h2,_⟩:=HN.o hq;omega)⟩,A0.o⟩
end Go.Proofs.YtfolidlmgfhkiaaGreat
namespace Go.Proofs.YtfolidlmgfhkiaaGreat
open Go.RowKit
inductive NS:CT->Prop
 | num:NS .num
 | tru:NS .tru
 | txt:NS .txt
 | sat:NS (.sat strP)
 | sl (e:List CT) (h:∀ (j:Nat) (t:CT),e[j]?=some t->NS t) (h2:∀ (j:Nat) (t:CT),e[j]?=some t->j<=2->∀ e',t≠.sl e'/\∀ p,t≠.lst p e'):NS (.sl e)
 | lst (p:VL->Prop) (e:List CT) (h:∀ (j:Nat) (t:CT),e[j]?=some t->NS t) (h2:∀ (j:Nat) (t:CT),e[j]?=some t->j<=2->∀ e',t≠.sl e'/\∀ p,t≠.lst p e') (h0:∀ t,e[0]?=some t->t=.num):NS (.lst p e)
structure FnC3 (g:Nat) (w w':World):Prop where
 sz:(w:Nat)<=w'
 cs:∀ b o,w'.cell? (f_ b o)=w.cell? (f_ b o)\/(b=g/\((o=0/\(∃ s,w.cell? (f_ b o)=some (.string s))/\∃ s:ByteArray,w'.cell? (f_ b o)=some (.string s)/\s.size<=100)\/((o=1\/o=2)/\∃ A n c,w.cell? (f_ b o)=some (.slice A n c))))
theorem VT.nosl {w:World} {X:NP} {K:Nat} {t:CT} {A:OA} {n c:Nat} (h:VT w X K t (.slice A n c)) (hs:∀ e',t≠.sl e'/\∀ p,t≠.lst p e') (hn:NS t):False:=by
 cases hn with
 | num=>cases h
 | tru=>cases h
 | txt=>cases h
 | sat=>cases h with
  | sat p v h hp=>obtain ⟨s,e,_⟩:=hp;cases e
 | sl e _ _=>exact (hs e).1 rfl
 | lst p e _ _ _=>exact (hs e).2 p rfl
theorem VT.setf {g:Nat} {w w':World} {X:NP} {K:Nat} {t:CT} {v:Value} (h:VT w X K t v) (hc:FnC3 g w w'):NS t->VT w' X K t v:=by
 induction h with
 | num n=>intro _;exact .num n
 | tru x=>intro _;exact .tru x
 | txt x=>intro _;exact .txt x
 | nil e=>intro _;exact .nil e
 | sat p v h hp=>intro _;exact .sat p v h hp
 | lnil p e=>intro _;exact .lnil p e
 | sl e b o n c f hg hX hn hcap hm hf ht ih =>
  intro A0;cases A0 with
  | sl _ h1 h2 =>
   have A1:∀ k j t,k<n->e[j]?=some t->∃ v,w'.cell? ⟨b,o+(k*e.length+j),none⟩=some v/\VT w' X K t v:=fun k j t hk hj=>by
    rcases hc.cs b (o+(k*e.length+j)) with h | ⟨hb,h⟩
    ·exact ⟨f k j,h.trans (hf k j t hk hj),ih k j t hk hj (h1 j t hj)⟩
    rcases h with ⟨h0,⟨s,hs⟩,s',hs',hz⟩ | ⟨h12,A,m,d,hs⟩
    ·rw [hf k j t hk hj] at hs;injection hs with hs;have h3:=ht k j t hk hj;rw [hs] at h3;have A3:j=0:=by omega
     have A5:=h1 j t hj;refine ⟨.string s',hs',?_⟩;cases A5 with
     | num=>cases h3
     | tru=>cases h3
     | txt=>exact .txt _
     | sat=>exact .sat _ _ rfl ⟨s',rfl,hz⟩
     | sl e' _ _=>cases h3
     | lst p e' _ _ _=>cases h3
    rw [hf k j t hk hj] at hs;injection hs with hs;have h3:=ht k j t hk hj;rw [hs] at h3;exact (h3.nosl (h2 j t hj o_) (h1 j t hj)).elim
   have A4:∃ f':Nat->Nat->Value,∀ k j t,k<n->e[j]?=some t->w'.cell? ⟨b,o+(k*e.length+j),none⟩=some (f' k j)/\VT w' X K t (f' k j) :=
    ⟨fun k j=>(w'.cell? ⟨b,o+(k*e.length+j),none⟩).getD undef,fun k j t hk hj=>by obtain ⟨v,h1,h2⟩:=A1 k j t hk hj;dsimp only;rw [h1];exact ⟨rfl,h2⟩⟩
   obtain ⟨f',A2⟩:=A4;exact .sl e b o n c f' (lt_ hg hc.sz) hX hn hcap hm (fun k j t hk hj=>(A2 k j t hk hj).1) (fun k j t hk hj=>(A2 k j t hk hj).2)
 | lst p e b o n c f hg hX hn hcap hm hf ht hp ih =>
  intro A0;cases A0 with
  | lst _ _ h1 h2 h0 =>
   have A1:∀ k j t,k<n->e[j]?=some t->w'.cell? ⟨b,o+(k*e.length+j),none⟩=some (f k j):=fun k j t hk hj=>by
    rcases hc.cs b (o+(k*e.length+j)) with h | ⟨hb,h⟩
    ·exact h.trans (hf k j t hk hj)
    rcases h with ⟨h3,⟨s,hs⟩,s',hs',hz⟩ | ⟨h12,A,m,d,hs⟩
    ·exfalso;rw [hf k j t hk hj] at hs;injection hs with hs;have h4:=ht k j t hk hj;rw [hs] at h4;have A3:j=0:=by omega
     subst A3;have:=h0 t hj;subst this;cases h4
    exfalso;rw [hf k j t hk hj] at hs;injection hs with hs;have h3:=ht k j t hk hj;rw [hs] at h3;exact h3.nosl (h2 j t hj o_) (h1 j t hj)
   exact .lst p e b o n c f (lt_ hg hc.sz) hX hn hcap hm A1 (fun k j t hk hj=>ih k j t hk hj (h1 j t hj)) hp
theorem ns_expr:∀ d,∀ (j:Nat) (t:CT),(be_ d)[j]?=some t->NS t:=by
 intro d
 induction d with
 | zero =>
  intro j t hj
  match j,hj with
  | 0,hj=>injection hj with hj;subst hj;exact .num
  | 1,hj=>injection hj with hj;subst hj;exact .num
  | 2,hj=>injection hj with hj;subst hj;exact .txt
  | 3,hj=>injection hj with hj;subst hj;exact .num
  | 4,hj=>injection hj with hj;subst hj;exact .lst _ _ (fun j t h=>by simp at h) (fun j t h=>by simp at h) (fun t h=>by simp at h)
 | succ d ih =>
  intro j t hj
  match j,hj with
  | 0,hj=>injection hj with hj;subst hj;exact .num
  | 1,hj=>injection hj with hj;subst hj;exact .num
  | 2,hj=>injection hj with hj;subst hj;exact .txt
  | 3,hj=>injection hj with hj;subst hj;exact .num
  | 4,hj =>
   injection hj with hj;subst hj;refine .lst _ _ ih (fun j t hj h2 e'=>?_) (fun t h=>?_)
   ·have h3:j=0\/j=1\/j=2:=by omega
    cases d <;> rcases h3 with rfl | rfl | rfl <;> (injection hj with hj;subst hj;exact ⟨x_,fun p h=>by cases h⟩)
   cases d <;> (injection h with h;exact h.symm)
theorem ns_lexpr (d:Nat):NS (.lst pE (be_ d)):=by
 refine .lst _ _ (ns_expr d) (fun j t hj h2 e'=>?_) (fun t h=>?_)
 ·have h3:j=0\/j=1\/j=2:=by omega
  cases d <;> rcases h3 with rfl | rfl | rfl <;> (injection hj with hj;subst hj;exact ⟨x_,fun p h=>by cases h⟩)
 cases d <;> (injection h with h;exact h.symm)
theorem ns_noP:NS (.lst noP []):=.lst _ _ (fun j t h=>by simp at h) (fun j t h=>by simp at h) (fun t h=>by simp at h)
theorem ns_lstmt' (d:Nat) (h:∀ (j:Nat) (t:CT),(ah_ d)[j]?=some t->NS t):NS (.lst pS (ah_ d)):=by
 refine .lst _ _ h (fun j t hj h2 e'=>?_) (fun t h=>?_)
 ·have h3:j=0\/j=1\/j=2:=by omega
  cases d <;> rcases h3 with rfl | rfl | rfl <;> (injection hj with hj;subst hj;exact ⟨x_,fun p h=>by cases h⟩)
 cases d <;> (injection h with h;exact h.symm)
theorem ns_stmt:∀ d,∀ (j:Nat) (t:CT),(ah_ d)[j]?=some t->NS t:=by
 intro d
 induction d with
 | zero =>
  intro j t hj
  match j,hj with
  | 0,hj=>injection hj with hj;subst hj;exact .num
  | 1,hj=>injection hj with hj;subst hj;exact .txt
  | 2,hj=>injection hj with hj;subst hj;exact .txt
  | 3,hj=>injection hj with hj;subst hj;exact .num
  | 4,hj=>injection hj with hj;subst hj;exact .num
  | 5,hj=>injection hj with hj;subst hj;exact ns_lexpr _
  | 6,hj=>injection hj with hj;subst hj;exact ns_noP
  | 7,hj=>injection hj with hj;subst hj;exact ns_noP
 | succ d ih =>
  intro j t hj
  match j,hj with
  | 0,hj=>injection hj with hj;subst hj;exact .num
  | 1,hj=>injection hj with hj;subst hj;exact .txt
  | 2,hj=>injection hj with hj;subst hj;exact .txt
  | 3,hj=>injection hj with hj;subst hj;exact .num
  | 4,hj=>injection hj with hj;subst hj;exact .num
  | 5,hj=>injection hj with hj;subst hj;exact ns_lexpr _
  | 6,hj=>injection hj with hj;subst hj;exact ns_lstmt' d ih
  | 7,hj=>injection hj with hj;subst hj;exact ns_lstmt' d ih
theorem ns_lstmt (d:Nat):NS (.lst pS (ah_ d)):=ns_lstmt' d (ns_stmt d)
theorem ns_strs:NS (.sl [.sat strP]):=.sl _ (fun j t h=>by
 match j,h with
 | 0,h=>injection h with h;subst h;exact .sat) (fun j t h h2 e'=>by
 match j,h with
 | 0,h=>injection h with h;subst h;exact ⟨x_,fun p h=>by cases h⟩)
theorem SlP.setf {g:Nat} {w w':World} {X:NP} {K D:Nat} {A:OA} {n c:Nat} (h:SlP w X K pS (ah_ D) A n c) (hc:FnC3 g w w'):SlP w' X K pS (ah_ D) A n c:=by
 obtain ⟨A',n',c',e',h'⟩:=(h.vt.setf hc (ns_lstmt D)).dm_;exact ud_
theorem SlT.setf {g:Nat} {w w':World} {X:NP} {K:Nat} {A:OA} {n c:Nat} (h:SlT w X K [.sat strP] A n c) (hc:FnC3 g w w'):SlT w' X K [.sat strP] A n c:=by
 obtain ⟨A',n',c',e',h'⟩:=(h.vt.setf hc ns_strs).slice;exact ud_
theorem OwP.setf {g base:Nat} {w w':World} {X:NP} {D:Nat} {A:OA} {n c:Nat} (h:OwP w base 212 pS (ah_ D) X 20 A n c) (hc:FnC3 g w w') (hb:∀ b,(Value.slice A n c).ownBlock=some b->w'.heap[b]?=w.heap[b]?):OwP w' base 212 pS (ah_ D) X 20 A n c:=by
 obtain ⟨xs,ho,hx⟩:=h;refine ⟨xs,⟨ho.1,?_⟩,fun k hk=>?_⟩
 ·rcases ho.2 with h | ⟨b,cap,cur,hv,hg,hr,hr2⟩
  ·exact .inl h
  injection hv with q1 _ q3;subst q1 q3;exact .inr ⟨b,_,cur,rfl,hg,(hb b rfl).trans hr,hr2⟩
 obtain ⟨vs,h1,h2,h3⟩:=hx k hk;refine ⟨vs,⟨h1.1,fun j t hj=>?_⟩,h2,h3⟩;obtain ⟨u,hu,hv⟩:=h1.2 j t hj;exact ⟨u,hu,hv.setf hc (ns_stmt D j t hj)⟩
theorem fn_set {g:Nat} {w:World} {s0 s1:ByteArray} {A0 A1 B0 B1:OA} {n0 c0 n1 c1 m0 d0 m1 d1:Nat} (hb:Bx w g [.string s0,.slice A0 n0 c0,.slice B0 m0 d0]) (hs:s1.size<=100):FnC3 g w (w.setCells g 0 [.string s1,.slice A1 n1 c1,.slice B1 m1 d1]):=by
 have h':=hb.all [.string s1,.slice A1 n1 c1,.slice B1 m1 d1] rfl;refine ⟨by rw [setCells_size];exact l_,fun b o=>?_⟩;by_cases hbg:b=g
 ·subst hbg
  match o with
  | 0=>exact .inr ⟨rfl,.inl ⟨rfl,⟨s0,hb.2.1 0 _ rfl⟩,s1,h'.2.1 0 _ rfl,hs⟩⟩
  | 1=>exact .inr ⟨rfl,.inr ⟨.inl rfl,A0,n0,c0,hb.2.1 1 _ rfl⟩⟩
  | 2=>exact .inr ⟨rfl,.inr ⟨.inr rfl,B0,m0,d0,hb.2.1 2 _ rfl⟩⟩
  | o+3 =>
   left;simp only [World.setCells]
   repeat rw [bk_ _ _ _ _ zp_]
 left;have hk:Kp (fun k=>k=g) w (w.setCells g 0 [.string s1,.slice A1 n1 c1,.slice B1 m1 d1]):=ai_ _ _ _ (Kp.refl _ _) (.inl rfl);by_cases hlt:b<w
 ·exact hk.cell hlt hbg
 exact World.cell?_of_block (w:=w) (by rw [Array.getElem?_eq_none (show _<=b by rw [setCells_size];omega),Array.getElem?_eq_none (show _<=b by omega)])
theorem zfn_bx {g:Nat} {w:World} (h:Bx w g zfn):Bx w g [.string ⟨#[]⟩,.slice none 0 0,.slice none 0 0]:=h
theorem fn_put {g:Nat} {w:World} {s0:ByteArray} {A0 B0:OA} {n0 c0 m0 d0:Nat} (v:Value) (hb:Bx w g [.string s0,.slice A0 n0 c0,.slice B0 m0 d0]):FnC3 g w (w.setCell (f_ g 2) v):=by
 refine ⟨zk_,fun b o=>?_⟩;by_cases e:b=g/\o=2
 ·obtain ⟨rfl,rfl⟩:=e;exact .inr ⟨rfl,.inr ⟨.inr rfl,B0,m0,d0,hb.2.1 2 _ rfl⟩⟩
 left;exact bk_ _ _ _ _ (by intro e2;injection e2 with e3 e4;exact e ⟨e3.symm,e4.symm⟩)
theorem own_nofn {g base:Nat} {w:World} {X:NP} {D:Nat} {A:OA} {n c:Nat} {s0:ByteArray} {r:VL} (h:OwP w base 212 pS (ah_ D) X 20 A n c) (hn:0<n) (hb:Bx w g (.string s0 :: r)):(Value.slice A n c).ownBlock≠some g:=fun e=>by
 obtain ⟨xs,ho,hx⟩:=h;obtain ⟨vs,h1,h2,h3⟩:=hx 0 hn;obtain ⟨u,hu,hv⟩:=h1.2 0 .num (by cases D <;> rfl);obtain ⟨i,rfl⟩:=hv.int;have h4:=h2 0 _ hu;rw [Nat.zero_mul,Nat.zero_add] at h4;rcases ho.2 with ⟨h',_⟩ | ⟨b,cap,cur,hv2,hg,hr,hr2⟩
 ·injection h' with q1;subst q1;cases e
 injection hv2 with q1 _ q3;subst q1 q3;injection e with e;have e:b=g:=e;subst e;have h5:=ho.cells (g:=b) rfl 0 _ h4;rw [Addr.add_lit] at h5;have h6:=hb.2.1 0 _ rfl;rw [h6] at h5;cases h5
end Go.Proofs.YtfolidlmgfhkiaaGreat
namespace Go.Proofs.YtfolidlmgfhkiaaGreat
open Go.RowKit Go.Proofs.Tryz
theorem RnK.imp {P:Program} {Q:Exit->Act->World->Prop} {X:XE} {Inv:World->Prop} {κ κ':SK X} {o:Oper} {a:Act} {w:World} (h:RnK P Q X Inv κ o a w) (hi:∀ w v,κ.p w v->κ'.p w v):RnK P Q X Inv κ' o a w:=fun K hK=>h K (fun v w' h1 h2 h3 h4=>hK v w' h1 h2 h3 (hi _ _ h4))
section
variable {Q:Exit->Act->World->Prop} {X:XE} {Inv:World->Prop} {o:Oper} {a:Act} {w:World} {d b lp:Nat}
theorem rk_ol8 {x0 x1 x2 x3 x4 x5 x6 x7:Operand} {D B:Nat} {hB:∀ k,X k->k<B} (hBw:B<=w) (hC:IC d b lp X Inv) (ho:o.op=.buildSlice 192 8 #[(0,x0),(1,x1),(2,x2),(3,x3),(4,x4),(5,x5),(6,x6),(7,x7)]) (h0:(kSt X D).p w (a.eval x0)) (h1:(kSt X D).p w (a.eval x1)) (h2:(kSt X D).p w (a.eval x2)) (h3:(kSt X D).p w (a.eval x3)) (h4:(kSt X D).p w (a.eval x4)) (h5:(kSt X D).p w (a.eval x5)) (h6:(kSt X D).p w (a.eval x6)) (h7:(kSt X D).p w (a.eval x7)) (hI:Inv w):RnK prog Q X Inv (kOl X B hB D 8) o a w:=by
 obtain ⟨Ao,BI,Bj,BA,AN,AV,Br,Bb,A0,Ax,A8,B3,AF,Ag,h0,v0⟩:=h0;obtain ⟨Ap,BJ,Bk,BB,AO,AW,Bs,Bc,A1,Ay,A9,B4,AG,Ah,h1,v1⟩:=h1;obtain ⟨Aq,BK,Bl,BC,AP,AX,Bt,Bd,A2,Az,Aa,B5,AH,Ai,h2,v2⟩:=h2;obtain ⟨Ar,BL,Bm,BD,AQ,AY,Bu,Be,A3,AA,Ab,B6,AI,Aj,h3,v3⟩:=h3;obtain ⟨As,BM,Bn,BE,AR,AZ,Bv,Bf,A4,AB,Ac,B7,AJ,Ak,h4,v4⟩:=h4;obtain ⟨Au,BN,Bo,BF,AS,B0,Bw,Bg,A5,AC,Ad,B8,AK,Al,h5,v5⟩:=h5;obtain ⟨Av,BO,Bp,BG,AT,B1,By,Bh,A6,AD,Ae,B9,AL,Am,h6,v6⟩:=h6;obtain ⟨Aw,BP,Bq,BH,AU,B2,Bz,Bi,A7,AE,Af,Ba,AM,An,h7,v7⟩:=h7;generalize hr:a.eval=r at h0 h1 h2 h3 h4 h5 h6 h7;have hl:=OwP.lit (n:=8) (w:=w) (X:=X) (p:=pS) (e:=ah_ D) (K:=20) 212 [stL Ao BI Bj BA AN AV Br Bb A0 Ax A8 B3 AF Ag,stL Ap BJ Bk BB AO AW Bs Bc A1 Ay A9 B4 AG Ah,stL Aq BK Bl BC AP AX Bt Bd A2 Az Aa B5 AH Ai,stL Ar BL Bm BD AQ AY Bu Be A3 AA Ab B6 AI Aj,stL As BM Bn BE AR AZ Bv Bf A4 AB Ac B7 AJ Ak,stL Au BN Bo BF AS B0 Bw Bg A5 AC Ad B8 AK Al,stL Av BO Bp BG AT B1 By Bh A6 AD Ae B9 AL Am,stL Aw BP Bq BH AU B2 Bz Bi A7 AE Af Ba AM An] rfl d_ d_ (fun vs hv=>by
  simp only [List.mem_cons,List.not_mem_nil,or_false] at hv
  rcases hv with rfl | rfl | rfl | rfl | rfl | rfl | rfl | rfl
  ·exact v0
  ·exact v1
  ·exact v2
  ·exact v3
  ·exact v4
  ·exact v5
  ·exact v6
  exact v7) (hC.lt w hI)
 refine rk_to (v:=.slice (some (a_ w)) 8 8) (w':=w.alloc (.cells ([stL Ao BI Bj BA AN AV Br Bb A0 Ax A8 B3 AF Ag,stL Ap BJ Bk BB AO AW Bs Bc A1 Ay A9 B4 AG Ah,stL Aq BK Bl BC AP AX Bt Bd A2 Az Aa B5 AH Ai,stL Ar BL Bm BD AQ AY Bu Be A3 AA Ab B6 AI Aj,stL As BM Bn BE AR AZ Bv Bf A4 AB Ac B7 AJ Ak,stL Au BN Bo BF AS B0 Bw Bg A5 AC Ad B8 AK Al,stL Av BO Bp BG AT B1 By Bh A6 AD Ae B9 AL Am,stL Aw BP Bq BH AU B2 Bz Bi A7 AE Af Ba AM An]:List (VL)).flatten.toArray 212)) (by rw [hr];simp [execOp,ho,h0,h1,h2,h3,h4,h5,h6,h7,go_sem];rfl) (.of_below (ax_ w _ _)) (hC.ex w _ hI (.of_below (ax_ w _ _))) ?_ (hC.below hI (ax_ w _ _));exact ⟨_,rfl,OwP.mono hl hBw⟩
end
theorem wp_store1 {Q:Exit->Act->World->Prop} {o:Oper} {a:Act} {w:World} {K:Act->World->Prop} {x y:Operand} {p:Addr} {A:OA} {n c:Nat} {u:Value} (ho:o.op=.store 192 x y) (hx:a.eval x=.pointer (some p)) (hy:a.eval y=.slice A n c) (hc:w.cell? p=some u) (hf:w.frozen? p=false) (h:K (a.put o.dst undef) (w.setCell p (.slice A n c))):o.wp prog a w K Q:=by
 have hr:(execOp a.eval o).run prog w=.ok .skip (w.setCell p (.slice A n c)):=by
  generalize hr:a.eval=r at hx hy;rw [hr] at *;simp [execOp,ho,hx,hy,hc,hf,go_sem]
 unfold Oper.wp;rw [hr];exact h
structure FnV (X:NP) (g z:Nat) (S:ByteArray) (w:World):Prop where
 zl:z<=w
 gz:g<z
 bx:∃ cs,Bx w g cs/\VTs w (fun k=>X k\/z<=k) 20 (db_ 3) cs/\cs[0]?=some (.string S)
theorem FnV.up {X Z:NP} {g z:Nat} {S:ByteArray} {w w':World} (h:FnV X g z S w) (hk:Kp Z w w') (hz:∀ k,Z k->X k\/z<=k) (hg:¬Z g):FnV X g z S w':=by
 obtain ⟨cs,h1,h2,h3⟩:=h.bx;exact ⟨Nat.le_trans h.zl hk.size,h.gz,cs,h1.kp hk hg,h2.up (hk.mono (fun k _ hk=>hz k hk)) (l_),h3⟩
theorem FnV.mk' {X:NP} {g:Nat} {S:ByteArray} {w:World} {P B:OA} {np cp m c:Nat} (hb:Bx w g [.string S,.slice P np cp,.slice B m c]) (hS:S.size<=100) (hP:SlT w X 20 [.sat strP] P np cp) (hB:SlP w X 20 pS (ah_ 3) B m c):FnV X g w S w:=by
 have hv:VTs w X 20 (db_ 3) [.string S,.slice P np cp,.slice B m c]:=VTs.cons (.sat _ _ rfl ⟨S,rfl,hS⟩) (VTs.cons hP.vt (VTs.cons hB.vt VTs.nil));exact ⟨l_,hb.1,_,hb,hv.kept (Kp.refl _ _) (fun k hk h1 h2=>by rcases h2 with h2 | h2;exact h1 h2;omega) (l_),rfl⟩
theorem stb_new {w:World} {kd:Int} {s f:ByteArray} {n op:Int} {A B C:OA} {m c m1 c1 m2 c2:Nat} {V:World} (B0:Bx V w [i_ kd,.string s,.string f,i_ n,i_ op,.slice A m c,.slice B m1 c1,.slice C m2 c2]):∀ w',Below V V w'->StB w' w kd s f n op A B C m c m1 c1 m2 c2:=fun w' hb =>
 ⟨(B0.below hb).2.1 0 _ rfl,(B0.below hb).2.1 1 _ rfl,(B0.below hb).2.1 2 _ rfl,(B0.below hb).2.1 3 _ rfl,(B0.below hb).2.1 4 _ rfl,(B0.below hb).2.1 5 _ rfl,(B0.below hb).2.1 6 _ rfl,(B0.below hb).2.1 7 _ rfl⟩
theorem stmts_step (X:NP) (d:Nat) (A:OA) (n c:Nat) (VA:OA) (nv cv Kv:Nat) (hKv:Kv<=900000000) (L:OA) (nl cl:Nat) (hnl:nl<=20) (w:World) (h:SlT w X 20 (db_ d) A n c) (hv:SlT w nX Kv [.txt] VA nv cv)
  (hk:∀ k,k<nl->∃ (kd:Int) (s f:ByteArray) (nn op:Int) (E B C:OA) (m c' m1 c1 m2 c2 g o:Nat),StC w L k kd s f nn op E B C m c' m1 c1 m2 c2 g o/\SlP w X 20 pE (be_ dE) E m c' ∧
   ∀ w':World,Below w w w'->(Calls prog 162 #[.agg #[.slice A n c],.slice VA nv cv,.slice B m1 c1] w' fun e w''=>RI e/\Below w' w' w'')/\Calls prog 162 #[.agg #[.slice A n c],.slice VA nv cv,.slice C m2 c2] w' fun e w''=>RI e/\Below w' w' w'') :
  Calls prog 162 #[.agg #[.slice A n c],.slice VA nv cv,.slice L nl cl] w fun e w'=>RI e/\Below w w w':=by
 obtain ⟨W,hW,Aj,AB,B0⟩:=ag_ w [.slice A n c] 136;have A5:=h_ (∀ w',Below W W w'->w'.cell? (a_ w)=some (.slice A n c)) (fun w' hb=>(B0.below hb).2.1 0 _ rfl);have HW:=q_ Aj;have H:=q_ h;have HV:=q_ hv;have HK:=q_ hk;have AL:=h.le;have AO:=hv.le;clear B0 Aj h hv hk;go_enter func162,ntmps162;go_upto_region 2 with fail;rw [<-hW];clear hW;go_loopw [18] (fun i wr=>∃ k:Nat,k<=nl/\i=i_ k/\Hid (Below W W wr)) (fun i _=>nl - (intOf i).toNat)
 case atStart=>exact ⟨0,o_,rfl,q_ (b_)⟩
 obtain ⟨k,AJ,rfl,HR⟩:=hrel;have A6:=q_ (HW.o.trans (HR.o.mono HW.o.size));have Ay:(w:Nat)<=wr:=A6.o.size;by_cases hlt:k<nl
 ·have Ab:(k:Int)<(nl:Int):=by omega
  obtain ⟨kd,s,f,nn,op,E,B,C,m,c',m1,c1,m2,c2,g,o,Am,hE,A2⟩:=HK.o k hlt;obtain ⟨rfl,hg,k0,k1,k2,k3,k4,k5,k6,k7⟩:=Am.up A6.o;obtain ⟨V,hV,A8,AA,B0⟩:=ag_ wr [i_ kd,.string s,.string f,i_ nn,i_ op,.slice E m c',.slice B m1 c1,.slice C m2 c2] 212;have A0:=q_ (A6.o.trans (A8.mono Ay));have A3:=q_ (HR.o.trans (A8.mono HR.o.size));have KC:=q_ (stb_new B0);have HE:=q_ hE;have AK:=hE.sl.le;have Ad:=q_ A2;clear B0 A8 Am hE A2;go_upto_region 4 with fail;rw [<-hV];clear hV k0 k1 k2 k3 k4 k5 k6 k7;obtain ⟨x0,x1,x2,x3,x4,x5,x6,x7⟩:=KC.o V (b_);go_upto_region 5 with fail;clear x0 x1 x2 x3 x4 x5 x6 x7;go_loopw [25] (fun i wy=>∃ j:Nat,j<=m/\i=i_ j/\Hid (Below V V wy)) (fun i _=>m - (intOf i).toNat)
  case atStart=>exact ⟨0,o_,rfl,q_ (b_)⟩
  rename World=>wy
  obtain ⟨j,AI,rfl,HY⟩:=hrel;have A7:=q_ (A0.o.trans (HY.o.mono A0.o.size));have Ao:(w:Nat)<=wy:=A7.o.size;have Ax:(V:Nat)<=wy:=HY.o.size;by_cases hlj:j<m
  ·have A9:(j:Int)<(m:Int):=by omega
   obtain ⟨ge,oe,us,rfl,Al,AC,hu,Av,hc⟩:=HE.o.el hlj;obtain ⟨Ap,n',s',Aq,A',m',Af,rfl,_,_,_⟩:=Av;rw [ea_] at hc;have A1:∀ j,wy.cell? (f_ ge j)=w.cell? (f_ ge j):=fun j=>belc A7.o Al
   have AH:ge<wy:=lt_ Al Ao;have k0:wy.cell? ⟨ge,oe+j*5,none⟩=some (i_ Ap):=(A1 _).trans (hc 0 _ rfl);have k1:wy.cell? ⟨ge,oe+j*5+1,none⟩=some (i_ n'):=(A1 _).trans (hc 1 _ rfl);have k2:wy.cell? ⟨ge,oe+j*5+2,none⟩=some (.string s'):=(A1 _).trans (hc 2 _ rfl);have k3:wy.cell? ⟨ge,oe+j*5+3,none⟩=some (i_ Aq):=(A1 _).trans (hc 3 _ rfl);have k4:wy.cell? ⟨ge,oe+j*5+4,none⟩=some (.slice A' m' Af):=(A1 _).trans (hc 4 _ rfl);have HU:=q_ (hu.up (Kp.of_below (A7.o.alloc Ao (.cells #[i_ Ap,i_ n',.string s',i_ Aq,.slice A' m' Af] 209))) (l_));clear A1 hc hu;go_wp2_with fail;refine (Reads_any X dE _ _ d_ HU.o).mono ?_;rintro e W3 ⟨⟨RA,rn,rc,rfl,hR⟩,A4⟩;have H3:=h_ (Below V V W3) ((HY.o.alloc Ax _).trans (A4.mono zm_));have AN:=hR.o.le;clear A4 k0 k1 k2 k3 k4;go_upto_region 8 with fail;go_loopw [32] (fun i wz=>∃ q:Nat,q<=rn/\i=i_ q/\Hid (Below W3 W3 wz)) (fun i _=>rn - (intOf i).toNat)
   case atStart=>exact ⟨0,o_,rfl,q_ (b_)⟩
   rename World=>wz
   obtain ⟨q,Aw,rfl,HZ⟩:=hrel;have Ae:=q_ (H3.o.trans (HZ.o.mono H3.o.size));have As:=q_ (A0.o.trans (Ae.o.mono A0.o.size));have AE:cr dE<=900000000:=by decide
   by_cases hlq:q<rn
   ·have Aa:(q:Int)<(rn:Int):=by omega
    obtain ⟨gr,Az,rfl,AG,AD,vs,An,hm⟩:=(hR.o.up (Kp.of_below HZ.o) (l_)).mt hlq;obtain ⟨u,hu,ht⟩:=An.2 0 .txt rfl;obtain ⟨t,rfl⟩:=ht.str;have y0:wz.cell? ⟨gr,Az+q,none⟩=some (.string t):=by have:=hm 0 _ hu;simpa using this
    clear An hm hu ht;go_wp2_with fail;refine (Has_any VA nv cv t nX Kv wz (HV.o.up (Kp.of_below As.o) (l_)) hKv).mono ?_;rintro e W4 ⟨⟨b,rfl⟩,Ag⟩;have H4:=q_ (HZ.o.trans (Ag.mono HZ.o.size));clear Ag y0;cases b
    case false =>
     go_wp2;go_ret;exact ⟨⟨_,rfl⟩,A0.o.trans ((H3.o.trans (H4.o.mono H3.o.size)).mono A0.o.size)⟩
    go_wp2;go_roundw
    case rel=>exact ⟨q+1,o_,za_,H4⟩
    case measure=>exact me_
   have Aa:¬(q:Int)<(rn:Int):=by omega
   go_wp2;go_roundw
   case rel=>exact ⟨j+1,o_,za_,Ae⟩
   case measure=>exact me_
  have A9:¬(j:Int)<(m:Int):=by omega
  obtain ⟨x0,x1,x2,x3,x4,x5,x6,x7⟩:=KC.o wy HY.o;have p0:=A5.o wy (A3.o.trans (HY.o.mono A3.o.size));go_upto_if 44 with fail;go_cut [] (fun wz=>Hid (Below V V wz))
  case first =>
   by_cases hkd:kd=3
   case neg =>
    go_wp2;go_meet;exact HY
   subst hkd;go_wp2_with fail;refine (Index_t X 20 d_ d A n c f wy (H.o.up (Kp.of_below A7.o) (l_))).mono ?_;rintro e W3 ⟨⟨r,rfl,hr,_⟩,A4⟩;have H3:=q_ (HY.o.trans (A4.mono HY.o.size));clear x0 x1 x2 x3 x4 x5 x6 x7 p0 A4;rcases hr with rfl | ⟨q,rfl,hq⟩
   ·exact ta_
   obtain ⟨x0,x1,x2,x3,x4,x5,x6,x7⟩:=KC.o W3 H3.o;have p0:=A5.o W3 (A3.o.trans (H3.o.mono A3.o.size));obtain ⟨fs,P,np,cp,FB,nb,cb,gf,AP,Ak,_,hP,_,_⟩:=H.o.fn hq;obtain ⟨rfl,AF,f0,f1,f2⟩:=Ak.up (A0.o.trans (H3.o.mono A0.o.size));have Au:=hP.le;have AM:¬(q:Int)<0:=by omega
   have Aw:(q:Int)<(n:Int):=by omega
   have Ac:(np:Int)=(m:Int)\/(np:Int)≠(m:Int):=by omega
   clear Ak hP;go_upto_region 18 with fail;go_quiet (fail);rcases Ac with Ac | Ac
   ·go_wp2;all_goals first
     | (go_ret;exact ⟨⟨_,rfl⟩,A0.o.trans ((bel H3.o) |>.mono A0.o.size)⟩)
     | (go_meet;exact q_ (bel H3.o))
   go_wp2;all_goals first
    | (go_ret;exact ⟨⟨_,rfl⟩,A0.o.trans (Below.mono (B:=V) (bel H3.o) A0.o.size)⟩)
    | (go_meet;exact q_ (bel H3.o))
  rename World=>wz
  have HZ:=hcut;clear x0 x1 x2 x3 x4 x5 x6 x7 p0;obtain ⟨x0,x1,x2,x3,x4,x5,x6,x7⟩:=KC.o wz HZ.o;go_upto_region 20 with fail;go_cut [70] (fun v wq=>∃ b:Bool,v=.bool b/\Hid (Below V V wq))
  case first =>
   go_wp2_with (go_at_call 169;refine (ey_ _ _).mono ?_;rintro e w1 ⟨⟨b,rfl⟩,hb⟩;have Ar:=q_ (HZ.o.trans (hb.mono HZ.o.size)));all_goals
    go_meet;first
     | exact ⟨_,rfl,Ar⟩
     | exact ⟨_,rfl,HZ⟩
  rename World=>wq
  obtain ⟨b,rfl,HQ⟩:=hcut;clear x0 x1 x2 x3 x4 x5 x6 x7;obtain ⟨x0,x1,x2,x3,x4,x5,x6,x7⟩:=KC.o wq HQ.o;have p0:=A5.o wq (A3.o.trans (HQ.o.mono A3.o.size));cases b
  case true =>
   go_wp2;go_ret;exact ⟨⟨_,rfl⟩,A0.o.trans (HQ.o.mono A0.o.size)⟩
  case false =>
  go_wp2_with fail;refine (Ad.o wq (A0.o.trans (HQ.o.mono A0.o.size))).1.mono ?_;rintro e W5 ⟨⟨r1,rfl⟩,Ah⟩;have H5:=q_ (HQ.o.trans (Ah.mono HQ.o.size));clear x0 x1 x2 x3 x4 x5 x6 x7 p0 Ah;obtain ⟨x0,x1,x2,x3,x4,x5,x6,x7⟩:=KC.o W5 H5.o;have p0:=A5.o W5 (A3.o.trans (H5.o.mono A3.o.size));by_cases hr1:r1=0
  case neg =>
   go_wp2;go_ret;exact ⟨⟨_,rfl⟩,A0.o.trans (H5.o.mono A0.o.size)⟩
  case pos =>
  subst hr1;go_wp2_with fail;refine (Ad.o W5 (A0.o.trans (H5.o.mono A0.o.size))).2.mono ?_;rintro e W6 ⟨⟨r2,rfl⟩,Ai⟩;have H6:=q_ (H5.o.trans (Ai.mono H5.o.size));clear x0 x1 x2 x3 x4 x5 x6 x7 p0 Ai;by_cases hr2:r2=0
  case neg =>
   go_wp2;go_ret;exact ⟨⟨_,rfl⟩,A0.o.trans (H6.o.mono A0.o.size)⟩
  case pos =>
  subst hr2;go_wp2;go_roundw
  case rel=>exact ⟨k+1,o_,za_,q_ (A3.o.trans (H6.o.mono A3.o.size))⟩
  case measure=>exact me_
 have Ab:¬(k:Int)<(nl:Int):=by omega
 go_wp2;go_ret;exact ⟨⟨_,rfl⟩,A6.o⟩
theorem stmts_t (X:NP) (d:Nat) (A:OA) (n c:Nat) (VA:OA) (nv cv Kv:Nat) (hKv:Kv<=900000000):∀ (dd:Nat) (L:OA) (nl cl:Nat) (w:World),SlT w X 20 (db_ d) A n c->SlT w nX Kv [.txt] VA nv cv->SlP w X 20 pS (ah_ dd) L nl cl →
  Calls prog 162 #[.agg #[.slice A n c],.slice VA nv cv,.slice L nl cl] w fun e w'=>RI e/\Below w w w'
 | 0,L,nl,cl,w,h,hv,hl=>by
  refine stmts_step X d A n c VA nv cv Kv hKv L nl cl hl.sl.le w h hv (fun k hk=>?_);obtain ⟨kd,s,f,nn,op,E,B,C,m,c',m1,c1,m2,c2,g,o,h1,h2,h3,_,_,_,_,h0,_⟩:=hl.st hk;obtain ⟨rfl,rfl⟩:=h0 rfl;exact ⟨kd,s,f,nn,op,E,B,C,m,c',0,c1,0,c2,g,o,h1,h2,fun w' hb =>
   ⟨stmts_step X d A n c VA nv cv Kv hKv B 0 c1 o_ w' (h.up (Kp.of_below hb) (l_)) (hv.up (Kp.of_below hb) (l_)) (fun k hk=>o_),stmts_step X d A n c VA nv cv Kv hKv C 0 c2 o_ w' (h.up (Kp.of_below hb) (l_)) (hv.up (Kp.of_below hb) (l_)) (fun k hk=>o_)⟩⟩
 | dd+1,L,nl,cl,w,h,hv,hl=>by
  refine stmts_step X d A n c VA nv cv Kv hKv L nl cl hl.sl.le w h hv (fun k hk=>?_);obtain ⟨kd,s,f,nn,op,E,B,C,m,c',m1,c1,m2,c2,g,o,h1,h2,h3,_,_,_,_,_,hd⟩:=hl.st hk;exact ⟨kd,s,f,nn,op,E,B,C,m,c',m1,c1,m2,c2,g,o,h1,h2,fun w' hb =>
   ⟨stmts_t X d A n c VA nv cv Kv hKv dd B m1 c1 w' (h.up (Kp.of_below hb) (l_)) (hv.up (Kp.of_below hb) (l_)) ((hd dd rfl).1.below hb),stmts_t X d A n c VA nv cv Kv hKv dd C m2 c2 w' (h.up (Kp.of_below hb) (l_)) (hv.up (Kp.of_below hb) (l_)) ((hd dd rfl).2.below hb)⟩⟩
def RCk (e:Ending):Prop:=∃ a b:Int,e=.returned (.tuple #[i_ a,i_ b])
theorem SlT.txt_of {w:World} {X:NP} {K:Nat} {A:OA} {n c:Nat} (h:SlT w X K [.sat strP] A n c):SlT w X K [.txt] A n c :=
 ⟨h.le,h.cap,h.max,h.nul,fun ad hA=>by
  obtain ⟨g,o,e,hg,hX,f,hf,ht⟩:=h.at_ ad hA
  refine ⟨g,o,e,hg,hX,f,fun k j t hk hj=>?_,fun k j t hk hj=>?_⟩
  ·match j,hj with
   | 0,_=>exact hf k 0 _ hk rfl
  match j,hj with
  | 0,hj =>
   injection hj with hj
   subst hj
   have:=ht k 0 (.sat strP) hk rfl
   obtain ⟨s,hs,_⟩:strP (f k 0):=by generalize f k 0=v at this;cases this;assumption
   rw [hs];exact .txt s⟩
theorem Check07_t (X:NP) (d:Nat) (hd:d<=3) (A:OA) (n c:Nat) (w:World) (h:SlT w X 20 (db_ d) A n c) :
  Calls prog 108 #[.agg #[.slice A n c]] w fun e w'=>RCk e/\Below w w w':=by
 obtain ⟨W,hW,Ag,An,B0⟩:=ag_ w [.slice A n c] 136;have A5:=h_ (∀ w',Below W W w'->w'.cell? (a_ w)=some (.slice A n c)) (fun w' hb=>(B0.below hb).2.1 0 _ rfl);have HW:=q_ Ag;have H:=q_ h;have Ay:=h.le;have Ao:20+cw d<=900000000:=by
  match d,hd with
  | 0,_=>decide
  | 1,_=>decide
  | 2,_=>decide
  | 3,_=>decide
 obtain ⟨Ar,As,A4,_⟩:=ei_str.hi;have p0:=A5.o W (b_);clear B0 Ag h;go_enter func108,ntmps108;go_upto_region 1 with fail;rw [<-hW];clear hW;go_wp2_with fail;refine (Shaped_t X 20 d_ d A n c W (H.o.up (Kp.of_below HW.o) (l_))).mono ?_;rintro e W1 ⟨⟨r0,rfl⟩,Ad⟩;have H1:=q_ Ad;clear p0 Ad;by_cases hr0:r0=0
 case neg =>
  go_wp2;go_ret2;exact ⟨⟨_,_,rfl⟩,HW.o.trans (H1.o.mono HW.o.size)⟩
 case pos =>
 subst hr0;have p0:=A5.o W1 H1.o;go_upto_region 5 with fail;clear p0;go_loopw [19] (fun i wr=>∃ k:Nat,k<=n/\i=i_ k/\Hid (Below W W wr)) (fun i _=>n - (intOf i).toNat)
 case atStart=>exact ⟨0,o_,rfl,H1⟩
 obtain ⟨k,Ax,rfl,HR⟩:=hrel;have A6:=q_ (HW.o.trans (HR.o.mono HW.o.size));by_cases hlt:k<n
 ·have Ab:(k:Int)<(n:Int):=by omega
  obtain ⟨s,P,np,cp,B,nb,cb,g,o,Ah,hs,hP,hB,_⟩:=H.o.fn hlt;obtain ⟨rfl,hg,k0,k1,k2⟩:=Ah.up A6.o;obtain ⟨V,hV,A8,Am,B1⟩:=ag_ wr [.string s,.slice P np cp,.slice B nb cb] 194;have A0:=q_ (A6.o.trans (A8.mono A6.o.size));have A2:=q_ (HR.o.trans (A8.mono HR.o.size));have KC:=h_ (∀ w',Below V V w'->(w'.cell? (a_ wr)=some (.string s)/\w'.cell? (f_ wr 1)=some (.slice P np cp)/\w'.cell? (f_ wr 2)=some (.slice B nb cb))) (fun w' hb=>⟨(B1.below hb).2.1 0 _ rfl,(B1.below hb).2.1 1 _ rfl,(B1.below hb).2.1 2 _ rfl⟩);have Ap:=hP.le;have Aq:=hP.cap;have HP:=q_ hP;have HB:=q_ hB;clear B1 A8 Ah hP hB Am An;go_upto_region 7 with fail;rw [<-hV];clear hV k0 k1 k2;obtain ⟨x0,x1,x2⟩:=KC.o V (b_);go_upto_region 8 with fail;clear x0 x1 x2;go_loopw [27] (fun i wy=>∃ j:Nat,j<=np/\i=i_ j/\Hid (Below V V wy)) (fun i _=>np - (intOf i).toNat)
  case atStart=>exact ⟨0,o_,rfl,q_ (b_)⟩
  rename World=>wy
  obtain ⟨j,Aw,rfl,HY⟩:=hrel;have A7:=q_ (A0.o.trans (HY.o.mono A0.o.size));obtain ⟨x0,x1,x2⟩:=KC.o wy HY.o;have p0:=A5.o wy (A2.o.trans (HY.o.mono A2.o.size));by_cases hlj:j<np
  ·have Aa:(j:Int)<(np:Int):=by omega
   obtain ⟨gp,op,rfl,Av,Au,us,hv,hm⟩:=(HP.o.up (Kp.of_below A7.o) (l_)).mt hlj;obtain ⟨u,hu,ht⟩:=hv.2 0 (.sat strP) rfl;obtain ⟨t,rfl,AB⟩:strP u:=by cases ht;assumption
   have y0:wy.cell? ⟨gp,op+j,none⟩=some (.string t):=by have:=hm 0 _ hu;simpa using this
   have AA:∀ w',(Instr.slice 188 (.slice (some (f_ gp op)) np cp) none (some (i_ j)) none).run prog w'=.ok (.slice (some (f_ gp op)) j cp) w':=fun w'=>slice_high underlying188 A4 o_ w'
   have Ak:=q_ ((HP.o.take (k:=j) o_ cp o_ (l_)).txt_of);clear hv hm hu ht;go_upto_region 10 with fail;go_cut [45] (fun v wz=>∃ b:Bool,v=.bool b/\Hid (Below V V wz))
   case first =>
    go_wp2_with fail;refine (Index_t X 20 d_ d _ n c s wy (H.o.up (Kp.of_below A7.o) (l_))).mono ?_;rintro e W3 ⟨⟨r,rfl,_,_⟩,A3⟩;have H3:=q_ (HY.o.trans (A3.mono HY.o.size));clear x0 x1 x2 p0 y0 A3;obtain ⟨x0,x1,x2⟩:=KC.o W3 H3.o;go_wp2_with (go_at_call 161;refine (Has_any _ _ _ _ X 20 W3 (Ak.o.up (Kp.of_below (A0.o.trans (H3.o.mono A0.o.size))) (l_)) d_).mono ?_;rintro e w1 ⟨⟨b,rfl⟩,hb⟩;have Aj:=q_ (H3.o.trans (hb.mono H3.o.size)));all_goals
     go_meet;first
      | exact ⟨_,rfl,Aj⟩
      | exact ⟨_,rfl,H3⟩
   rename World=>wz
   obtain ⟨b,rfl,HZ⟩:=hcut;clear x0 x1 x2 p0 y0;cases b
   case true =>
    go_wp2;go_ret2;exact ⟨⟨_,_,rfl⟩,A0.o.trans (HZ.o.mono A0.o.size)⟩
   go_wp2;go_roundw
   case rel=>exact ⟨j+1,o_,za_,HZ⟩
   case measure=>exact me_
  have Aa:¬(j:Int)<(np:Int):=by omega
  go_wp2_with fail;refine (Index_t X 20 d_ d _ n c s wy (H.o.up (Kp.of_below A7.o) (l_))).mono ?_;rintro e W3 ⟨⟨r,rfl,_,_⟩,A3⟩;have H3:=q_ (HY.o.trans (A3.mono HY.o.size));clear x0 x1 x2 p0 A3;obtain ⟨x0,x1,x2⟩:=KC.o W3 H3.o;have Ac:r<(k:Int)\/¬r<(k:Int):=by omega
  rcases Ac with Ac | Ac
  ·go_wp2;go_ret2;exact ⟨⟨_,_,rfl⟩,A0.o.trans (H3.o.mono A0.o.size)⟩
  go_wp2_with fail;refine (Vars_t X 900000000 (l_) d s P np cp B nb cb W3 (HP.o.up (Kp.of_below (A0.o.trans (H3.o.mono A0.o.size))) (l_)) (HB.o.below (A0.o.trans (H3.o.mono A0.o.size))) Ao).mono ?_;rintro e W4 ⟨⟨VA,nv,cv,rfl,hR⟩,Ae⟩;have H4:=q_ (H3.o.trans (Ae.mono H3.o.size));have Al:=h_ (SlT W4 nX 900000000 [.txt] VA nv cv) (hR.o.less2 (fun _ _ h=>h.elim));have Az:=hR.o.le;clear x0 x1 x2 Ae hR;obtain ⟨x0,x1,x2⟩:=KC.o W4 H4.o;go_upto_region 16 with fail;go_cut [64] (fun v wz=>∃ b:Bool,v=.bool b/\Hid (wz=W4))
  case first =>
   have A9:((k:Int) == 0)=true\/((k:Int) == 0)=false:=by cases ((k:Int) == 0);exact .inr rfl;exact .inl rfl
   rcases A9 with A9 | A9
   all_goals
    go_wp2;all_goals
     go_meet;exact ⟨_,rfl,q_ rfl⟩
  rename World=>wz
  obtain ⟨b,rfl,Ai⟩:=hcut;have hw:=Ai.o;subst hw;clear Ai;cases b
  case true =>
   go_wp2;go_ret2;exact ⟨⟨_,_,rfl⟩,A0.o.trans (H4.o.mono A0.o.size)⟩
  case false =>
  have A1:(16:Int)<(nv:Int)\/¬(16:Int)<(nv:Int):=by omega
  rcases A1 with A1 | A1
  ·go_wp2;go_ret2;exact ⟨⟨_,_,rfl⟩,A0.o.trans (H4.o.mono A0.o.size)⟩
  have p0:=A5.o wz (A2.o.trans (H4.o.mono A2.o.size));go_wp2_with fail;refine (stmts_t X d _ n c VA nv cv 900000000 (l_) d B nb cb wz (H.o.up (Kp.of_below (A0.o.trans (H4.o.mono A0.o.size))) (l_)) Al.o (HB.o.below (A0.o.trans (H4.o.mono A0.o.size)))).mono ?_;rintro e W5 ⟨⟨r1,rfl⟩,Af⟩;have H5:=q_ (H4.o.trans (Af.mono H4.o.size));clear x0 x1 x2 p0 Af;by_cases hr1:r1=0
  case neg =>
   go_wp2;go_ret2;exact ⟨⟨_,_,rfl⟩,A0.o.trans (H5.o.mono A0.o.size)⟩
  case pos =>
  subst hr1;go_wp2;go_roundw
  case rel=>exact ⟨k+1,o_,za_,q_ (A2.o.trans (H5.o.mono A2.o.size))⟩
  case measure=>exact me_
 have Ab:¬(k:Int)<(n:Int):=by omega
 go_wp2;go_ret2;exact ⟨⟨_,_,rfl⟩,A6.o⟩
end Go.Proofs.YtfolidlmgfhkiaaGreat
namespace Go.Proofs.YtfolidlmgfhkiaaGreat
open Go.RowKit
theorem ls3:LsOK 3 0:=list_of 3 0 d_ stmt_of3
theorem ls2:LsOK 2 1:=list_of 2 1 d_ (stmt_lt 2 0 d_ ls3)
theorem ls1:LsOK 1 2:=list_of 1 2 d_ (stmt_lt 1 1 d_ ls2)
theorem ls0:LsOK 0 3:=list_of 0 3 d_ (stmt_lt 0 2 d_ ls1)
end Go.Proofs.YtfolidlmgfhkiaaGreat
