/- Lemmas on functions of the program, under the conditions that each states. -/
import Derived.Test.YtfolidlmgfhkiaaGreatY32
import Derived.Test.YtfolidlmgfhkiaaGreatY24
set_option linter.unusedVariables false
set_option linter.unusedSimpArgs false
set_option maxRecDepth 100000
set_option maxHeartbeats 8000000
namespace Go.Proofs.YtfolidlmgfhkiaaGreat
open Go.RowKit Go.Proofs.Tryz
def RRun (X:NP) (K:Nat) (e:Ending) (w:World):Prop:=∃ (us:VL) (ev:Int),e=.returned (.tuple #[.agg us.toArray,i_ ev])/\VTs w X K af_ us
theorem ret_run {X:NP} {w0 w:World} {L:List LV} {Y:NP} {C:Nat->VL} {i b N:Nat} {us:VL} (F:Fr X (fun _=>False) w0 L Y C w) (hp:L[i]?=some ⟨b,fun _=>N,af_,noOw⟩) (hv:VTs w Y N af_ us) (ev:Int) :
  (∃ f2:Fr X (fun _=>False) w0 L Y (upd C b us) (w.setCells b 0 us),True)/\RRun X N (.returned (.tuple #[.agg (upd C b us b).toArray,i_ ev])) (w.setCells b 0 us)/\Below w0 w0 (w.setCells b 0 us):=by
 exact uc_
def Mz (l:List In) (st pc sp:Int) (gk:Nat):Prop:=st=0->0<=sp/\sp+gk<=5000/\(sp<64->5000 - sp<=gk)/\(64<=sp->(opAt l pc=21->1<=gk)/\(opAt l pc≠21->-1<=pc/\((l.length:Int) - pc).toNat+2<=gk))
theorem Mz.pos {l:List In} {pc sp:Int} {gk:Nat} (h:Mz l 0 pc sp gk):1<=gk:=by
 obtain ⟨h0,h1,h2,h3⟩:=h rfl;by_cases h64:sp<64
 ·have:=h2 h64;omega
 obtain ⟨h4,h5⟩:=h3 o_;by_cases hm:opAt l pc=21
 ·exact h4 hm
 have:=(h5 hm).2;omega
theorem Mz.step {l:List In} {pc sp st' pc' sp':Int} {gk:Nat} (h:Mz l 0 pc sp gk) (hs:st'=0->sp'=wrap64 (sp+1)/\-1<=pc/\pc<(l.length:Int)/\l.length<=2048/\(sp'<64\/(opAt l pc≠21/\(pc<pc'\/opAt l pc'=21)))):Mz l st' pc' sp' (gk - 1):=by
 intro h0;obtain ⟨e1,e2,e3,e4,e5⟩:=hs h0;have hp:=h.pos;obtain ⟨h0,h1,h2,h3⟩:=h rfl;have hw:wrap64 (sp+1)=sp+1:=by
  unfold wrap64;omega
 rw [hw] at e1;subst e1;refine ⟨o_,o_,fun A0=>?_,fun A0=>?_⟩
 ·have:=h2 o_;omega
 rcases e5 with e5 | ⟨e5,e6⟩
 ·omega
 by_cases hs64:sp<64
 ·have:=h2 hs64;refine ⟨fun _=>o_,fun hm=>?_⟩;rcases e6 with e6 | e6
  ·exact ⟨o_,o_⟩
  exact absurd e6 hm
 obtain ⟨h7,h8⟩:=(h3 o_).2 e5;refine ⟨fun _=>o_,fun hm=>?_⟩;rcases e6 with e6 | e6
 ·exact ⟨o_,o_⟩
 exact absurd e6 hm
theorem Run_t (X:NP) (K:Nat) (A:OA) (n c:Nat) (v s:Int) (l:List In) (D:OA) (m d:Nat) (L:Nat) (vs:VL) (HA:OA) (hn hc:Nat) (w:World)
  (hco:SlT w X K ay_ A n c) (hl:Sl w w 5 In.cells A n l) (hK:K<=900000000) (hd:SlT w X K [.num] D m d) (ht:VTs w X L af_ vs) (hL:L<=900000) (hh:SlT w X K objT HA hn hc) (hX:∀ k,X k->k<w) (st pc:Int) (hat:At vs st pc 0) :
  Calls prog 42 #[.agg #[.slice A n c,i_ v,i_ s],.agg #[.slice D m d],.agg vs.toArray,.agg #[.slice HA hn hc]] w fun e w'=>RRun X (L+8000000) e w'/\Below w w w':=by
 obtain ⟨W0,Y0,C0,A5,A9,U0,F0,c0,c1,c2,c3⟩:=Fr.start4 hX K [.sl ay_,.num,.num] [.slice A n c,i_ v,i_ s] 26 (VTs.cons hco.vt (VTs.cons (.num _) (VTs.cons (.num _) VTs.nil))) K [.sl [.num]] [.slice D m d] 32 (vts1 hd) (L+8000000) af_ vs 65 (ht.up (Kp.refl _ _) o_) K [.sl objT] [.slice HA hn hc] 35 (vts1 hh);obtain ⟨W,Y,C,hW,hz,U1,F,cN,cO⟩:=F0.add1 (L+8000000) af_ zl1 65 (bb_ _ af_);rw [A9] at F cN cO hz;rw [A5] at hW;have U:=U0.trans U1;have C0:=h_ (C w=[.slice A n c,i_ v,i_ s]) wp_;have C1:=h_ (C (w+1)=[.slice D m d]) wq_;have C2:=h_ (C (w+2)=vs) wr_;have C3:=h_ (C (w+3)=[.slice HA hn hc]) (by rw [cO _ o_];exact c3);have A3:=q_ (hco.go U (l_));have HL:=q_ (hl.go hco U);have HD:=q_ (hd.go U (l_));have HT:=h_ (VTs W Y (L+1600*(5000 - 5000)) af_ (C (w+2))) (by rw [C2.o];exact ht.go U o_);have HH:=q_ (hh.go U (l_));have HF:=q_ F;have Ac:=h_ (At (C (w+2)) st pc 0) (by rw [C2.o];exact hat);have Ad:=q_ (And.intro C0.o (And.intro C1.o C3.o));have As:(w:Nat)+4<W:=by omega
 clear hco hl hd ht hh hX U0 U1 F0 F c0 c1 c2 c3 cN cO U A5 A9 hat
 go_enter func42,ntmps42;go_upto_region 1 with fail;rw [<-hW];clear hW;go_loopg [] 5000 (fun gk wr=>∃ (C':Nat->VL) (Y':NP) (st pc sp:Int),gk<=5000/\Hid (Fr X (fun _=>False) w [⟨w+3+1,fun _=>L+8000000,af_,noOw⟩,⟨w+3,fun _=>K,[.sl objT],noOw⟩,⟨w+2,fun _=>L+8000000,af_,noOw⟩,⟨w+1,fun _=>K,[.sl [.num]],noOw⟩,⟨w,fun _=>K,[.sl ay_,.num,.num],noOw⟩] Y' C' wr)/\Hid (VTs wr Y' (L+1600*(5000 - gk)) af_ (C' (w+2)))/\Hid (At (C' (w+2)) st pc sp)/\Hid (C' w=[.slice A n c,i_ v,i_ s]/\C' (w+1)=[.slice D m d]/\C' (w+3)=[.slice HA hn hc])/\Hid (Up W Y wr Y')/\Hid (Mz l st pc sp gk))
 case atStart=>exact ⟨C,Y,st,pc,0,l_,HF,HT,Ac,Ad,q_ (Up.refl _ _),q_ (fun _=>⟨o_,o_,fun _=>o_,fun h=>o_⟩)⟩
 obtain ⟨A2,Y1,Am,Ai,Ak,Aq,hF,hT,hA,hC,hU,hM⟩:=hrel;have F1:=hF;have BT:=q_ (F1.o.box (i:=2) rfl);have IT:=q_ (F1.o.info (i:=2) rfl av_);have Ao:=BT.o.2.1 42 _ hA.o.1;have Ar:(w:Nat)+4<wr:=F1.o.blt (i:=0) rfl;clear hF;by_cases hst:Am=0
 case neg =>
  have BR:=q_ (F1.o.box (i:=0) rfl);have LR:=q_ (F1.o.len (i:=0) rfl);have VX:=q_ (F1.o.whole (i:=2) rfl);go_wp2_with (first | (with_reducible refine ac_ rfl 65 (.tmp 6) rfl _ underlying65 rfl v_ BT.o.whole IT.o ?_) | (with_reducible refine ab_ rfl 65 (.tmp 8) (.tmp 28) rfl (A2 (w+2)) w_ v_ (BR.o.aj_ LR.o (Nat.le_of_eq VX.o.len)) IT.o VX.o.one ?_));obtain ⟨⟨f9,_⟩,hr⟩:=ret_run F1.o (i:=0) rfl VX.o 0;refine ce_ results42 zc_ underlying65 rfl (f9.info (i:=0) rfl av_) (f9.box (i:=0) rfl).whole rfl ?_;exact hr
 subst hst;have hp:=hM.o.pos;have a0:=F1.o.cell (i:=4) rfl (j:=0) (v:=.slice A n c) (by rw [hC.o.1];rfl);have a1:=F1.o.cell (i:=4) rfl (j:=1) (v:=i_ v) (by rw [hC.o.1];rfl);have a2:=F1.o.cell (i:=4) rfl (j:=2) (v:=i_ s) (by rw [hC.o.1];rfl);have d0:=F1.o.cell (i:=3) rfl (j:=0) (v:=.slice D m d) (by rw [hC.o.2.1];rfl);have h0:=F1.o.cell (i:=1) rfl (j:=0) (v:=.slice HA hn hc) (by rw [hC.o.2.2];rfl);go_wp2_with (with_reducible refine ac_ rfl 65 (.tmp 6) rfl _ underlying65 rfl v_ BT.o.whole IT.o ?_);refine (Step_t Y1 K A n c v s l D m d (L+1600*(5000 - gk)) (A2 (w+2)) HA hn hc wr (A3.o.go hU.o (l_)) (HL.o.go A3.o hU.o) hK (HD.o.go hU.o (l_)) hT.o o_ (HH.o.go hU.o (l_)) F1.o.lt 0 Ai Ak hA.o).mono ?_;rintro e S ⟨⟨us,ev,rfl,A1,A8⟩,hS⟩;have F3:=q_ (F1.o.call hS);have US:=q_ A1;have IS:=h_ ((prog.info? 65).map (·.size)=some us.length) vr_;have BN:=q_ (Bx.new S zl1 65);have LR:=h_ ((zl1:VL).length=af_.length) rfl;obtain ⟨N,Y3,D3,hN,Ah,u3,f3,cN,A4⟩:=F3.o.ef_ (L+8000000) af_ zl1 us 65 (bb_ _ af_) (US.o.up (Kp.refl _ _) o_);have Ap:(w:Nat)+4<S:=F3.o.blt (i:=0) rfl;have F4:=q_ f3;have CN:=q_ cN;have CO:=q_ A4;have U4:=q_ ((hU.o.trans (Up.of_below hS)).trans u3);have Ag:=h_ (VTs N Y3 (L+1600*(5000 - (gk - 1))) af_ (D3 S)) (by rw [cN];exact A1.go u3 o_);clear hS A1 f3 cN A4 u3 Ah a0 a1 a2 d0 h0 Ao;go_upto_region 3 with (with_reducible refine ab_ rfl 65 (.tmp 10) (.tmp 21) rfl (us) w_ v_ (BN.o.aj_ LR.o (Nat.le_of_eq US.o.len)) IS.o US.o.one ?_);rw [<-hN];clear hN;by_cases hev:ev=0
 case neg =>
  have BR:=q_ (F4.o.box (i:=1) rfl);have LR:=q_ (F4.o.len (i:=1) rfl);have HZ:=h_ (VTs N Y3 (L+8000000) af_ ch_) ew_;go_wp2_with (with_reducible refine ab_ rfl 65 (.tmp 8) (.tmp 25) rfl ch_ w_ z4_ (BR.o.aj_ LR.o d_) dh_ HZ.o.one ?_);obtain ⟨⟨f9,_⟩,hr⟩:=ret_run F4.o (i:=1) rfl HZ.o ev;refine ce_ results42 zc_ underlying65 rfl (f9.info (i:=1) rfl av_) (f9.box (i:=1) rfl).whole rfl ?_;exact hr
 subst hev;obtain ⟨An,Aj,Al,A0,A6⟩:=A8.o rfl;have Ab:=q_ A0;have Af:=q_ (hM.o.step A6);have BX:=q_ (F4.o.box (i:=0) rfl);have IX:=q_ (F4.o.info (i:=0) rfl av_);have Aa:=q_ (F4.o.box (i:=3) rfl);have LR:=q_ (F4.o.len (i:=3) rfl);have VX:=q_ (F4.o.whole (i:=0) rfl);have A7:D3 S=us:=CN.o;obtain ⟨f5,u5⟩:=F4.o.sets (i:=3) rfl VX.o;have F5:=q_ f5;have U5:=q_ (U4.o.trans u5);have T5:=q_ (Ag.o.go u5 (l_));have Ae:=q_ A7;clear A8 A0 A6 f5 u5 A7;go_wp2_with (first | (with_reducible refine ac_ rfl 65 (.tmp 10) rfl _ underlying65 rfl v_ BX.o.whole IX.o ?_) | (with_reducible refine ab_ rfl 65 (.tmp 6) (.tmp 27) rfl (D3 S) w_ v_ (Aa.o.aj_ LR.o (Nat.le_of_eq VX.o.len)) IX.o VX.o.one ?_));go_roundg (gk - 1)
 case measure=>omega
 refine ⟨_,Y3,An,Aj,Al,o_,q_ F5.o.tail,q_ ?_,q_ ?_,q_ ⟨?_,?_,?_⟩,U5,Af⟩
 ·rw [upd_same];exact T5.o
 ·rw [upd_same,Ae.o];exact Ab.o
 ·rw [ad_ _ _ o_,CO.o _ o_];exact hC.o.1
 ·rw [ad_ _ _ o_,CO.o _ o_];exact hC.o.2.1
 rw [ad_ _ _ o_,CO.o _ o_];exact hC.o.2.2
def RBegin (X:NP) (e:Ending) (w:World):Prop:=∃ (us:VL) (ev:Int),e=.returned (.tuple #[.agg us.toArray,i_ ev])/\VTs w X 0 af_ us/\Hid (∃ st pc,At us st pc 0)
theorem ret_begin {X:NP} {w0 w:World} {L:List LV} {Y:NP} {C:Nat->VL} {i b:Nat} {us:VL} (F:Fr X (fun _=>False) w0 L Y C w) (hp:L[i]?=some ⟨b,fun _=>0,af_,noOw⟩) (hv:VTs w Y 0 af_ us) (ev:Int) (ha:∃ st pc,At us st pc 0) :
  (∃ f2:Fr X (fun _=>False) w0 L Y (upd C b us) (w.setCells b 0 us),True)/\RBegin X (.returned (.tuple #[.agg (upd C b us b).toArray,i_ ev])) (w.setCells b 0 us)/\Below w0 w0 (w.setCells b 0 us):=by
 obtain ⟨f2,u2⟩:=F.sets (i:=i) hp hv;exact ⟨⟨f2,trivial⟩,⟨_,ev,rfl,(f2.whole hp).less (fun k _ hk=>f2.sub k hk),q_ (by rw [upd_same];exact ha)⟩,f2.below⟩
def begT (start run:Int) (plain:Bool):VL:=[i_ start,i_ run,.bool plain,i_ start,.bool false,i_ 0,.bool false,i_ 0,.bool false,i_ 0,.bool false,i_ 0,.bool false,i_ 0,.bool false,i_ 0,.bool false,i_ 0,.bool false,i_ 0,.bool false,i_ 0,.bool false,i_ 0,.bool false,i_ 0,.bool false,i_ 0,.bool false,i_ 0,.bool false,i_ 0,.bool false,i_ 0,.bool false,i_ 0,.slice none 0 0,.slice none 0 0,.slice none 0 0,.slice none 0 0,.slice none 0 0,.slice none 0 0,i_ 0,i_ 0,.bool false,.bool false,i_ 0,i_ 0]
theorem vts_begT {X:NP} {w:World} (start run:Int) (plain:Bool):VTs w X 0 af_ (begT start run plain) :=
 VTs.cons (.num _) (VTs.cons (.num _) (VTs.cons (.tru _) (VTs.cons (.num _) (bb_ 0 (af_.drop 4)))))
theorem Begin_t (X:NP) (A:OA) (n c:Nat) (v s:Int) (l:List In) (K:Nat) (start run:Int) (plain:Bool) (w:World) (hco:SlT w X K ay_ A n c) (hl:Sl w w 5 In.cells A n l) (hK:K<=900000000) (hX:∀ k,X k->k<w) :
  Calls prog 41 #[.agg #[.slice A n c,i_ v,i_ s],i_ start,i_ run,.bool plain,.slice none 0 0] w fun e w'=>RBegin X e w'/\Below w w w':=by
 have Ak:=hco.le;obtain ⟨W,Y,C,hW,hz,U,F,c0,c1⟩:=Fr.start2 hX K [.sl ay_,.num,.num] [.slice A n c,i_ v,i_ s] 26 (VTs.cons hco.vt (VTs.cons (.num _) (VTs.cons (.num _) VTs.nil))) 0 af_ zl1 65 (bb_ _ af_);have C0:=q_ c0;have Aj:=q_ (hco.go U (l_));have HL:=q_ (hl.go hco U);have HF:=q_ F;have KS:=h_ (∀ w',Below W W w'->(w'.cell? (a_ w)=some (.slice A n c)/\w'.cell? (f_ w 1)=some (i_ v)/\w'.cell? (f_ w 2)=some (i_ s))) (fun w' hb=>by
  have f:=HF.o.call hb
  exact ⟨f.cell (i:=1) rfl zz_,f.cell (i:=1) rfl zz_,f.cell (i:=1) rfl zz_⟩)
 obtain ⟨x0,x1,x2⟩:=KS.o W (b_);clear hco hl hX U F c0 c1;go_enter func41,ntmps41;go_upto_region 1 with fail;rw [<-hW];clear hW;go_wp2_with fail;refine (Valid_any A n c v s l W HL.o o_).mono ?_;rintro e W1 ⟨⟨vb,rfl,_⟩,hB⟩;have F1:=q_ (HF.o.call hB);have B1:=q_ hB;have BR:=q_ (F1.o.box (i:=0) rfl);have LR:=q_ (F1.o.len (i:=0) rfl);have HZ:=h_ (VTs W1 Y 0 af_ ch_) ew_;clear hB x0 x1 x2;cases vb
 case false =>
  go_wp2_with (with_reducible refine ab_ rfl 65 (.tmp 10) (.tmp 18) rfl ch_ w_ z4_ (BR.o.aj_ LR.o d_) dh_ HZ.o.one ?_);obtain ⟨⟨f2,_⟩,hr⟩:=ret_begin F1.o (i:=0) rfl HZ.o 1 ⟨0,0,rfl,rfl,rfl⟩;refine ce_ results41 zc_ underlying65 rfl (f2.info (i:=0) rfl av_) (f2.box (i:=0) rfl).whole rfl ?_;exact hr
 obtain ⟨x0,x1,x2⟩:=KS.o W1 B1.o;go_wp2_with fail;refine (Beginning_any A n c v s start l W1 (HL.o.up B1.o) o_).mono ?_;rintro e W2 ⟨⟨bb,rfl⟩,A3⟩;have F2:=q_ (F1.o.call A3);have B2:=q_ (B1.o.trans (A3.mono B1.o.size));have BR:=q_ (F2.o.box (i:=0) rfl);have LR:=q_ (F2.o.len (i:=0) rfl);have HZ:=h_ (VTs W2 Y 0 af_ ch_) ew_;clear A3 x0 x1 x2;by_cases hbad:bb=false\/run<0\/1099511627776<run
 ·have A7:(∃ f2:Fr X (fun _=>False) w _ Y (upd C (w+1) ch_) (W2.setCells (w+1) 0 ch_),True)/\_:=ret_begin F2.o (i:=0) rfl HZ.o 2 ⟨0,0,rfl,rfl,rfl⟩;have A1:=q_ A7;clear A7;cases bb
  case false =>
   go_wp2_with (with_reducible refine ab_ rfl 65 (.tmp 10) (.tmp 31) rfl ch_ w_ z4_ (BR.o.aj_ LR.o d_) dh_ HZ.o.one ?_);obtain ⟨⟨f2,_⟩,hr⟩:=A1.o;refine ce_ results41 zc_ underlying65 rfl (f2.info (i:=0) rfl av_) (f2.box (i:=0) rfl).whole rfl ?_;exact hr
  by_cases Ae:run<0
  ·exact v6_
  have Af:1099511627776<run:=by rcases hbad with h | h | h;cases h;omega;exact h
  exact v6_
 have Ad:bb=true:=by cases bb;exact absurd (.inl rfl) hbad;rfl
 have Ae:¬run<0:=fun h=>hbad (.inr (.inl h))
 have Af:¬1099511627776<run:=fun h=>hbad (.inr (.inr h))
 subst Ad;clear hbad;obtain ⟨W3,Y3,C3,A5,Ag,u3,f3,c3,Ab⟩:=F2.o.ef_ 0 af_ zl1 (begT start run plain) 65 (bb_ _ af_) (vts_begT start run plain);have F3:=q_ f3;have E3:=q_ c3;have BN:=q_ (Bx.new W2 zl1 65);have Aa:=h_ ((zl1:VL).length=af_.length) rfl;have US:=h_ (VTs W2 Y 0 af_ (begT start run plain)) (vts_begT start run plain);have IS:=h_ ((prog.info? 65).map (·.size)=some (begT start run plain).length) av_;have Al:(w:Nat)+1<W2:=F2.o.blt (i:=0) rfl;have A6:=h_ (Below W2 W2 W3) (by rw [A5];exact (ai_ _ _ 0 ((Kp.refl (fun _=>False) W2).alloc _) (.inr (l_))).below (l_) (fun _ _ h=>h));obtain ⟨x0,x1,x2⟩:=KS.o W3 (B2.o.trans (A6.o.mono B2.o.size));clear f3 c3 Ab u3 Ag;go_upto_region 6 with (with_reducible refine ab_ rfl 65 (.tmp 12) (.tmp 37) rfl (begT start run plain) w_ (by simp [Act.eval,Act.put,begT]) (BN.o.aj_ Aa.o (Nat.le_of_eq US.o.len)) IS.o US.o.one ?_);rw [<-A5];clear A5;have Ac:(W2:Nat)<W3:=F3.o.blt (i:=0) rfl;go_upto_region 7 with fail;go_loopw [40] (fun i wr=>i=i_ 0/\wr=W3) (fun _ _=>0)
 case atStart=>exact ⟨rfl,rfl⟩
 obtain ⟨rfl,rfl⟩:=hrel;go_wp2_with fail;refine (Asks_any A n c v s start l wr (HL.o.up (B2.o.trans (A6.o.mono B2.o.size))) o_).mono ?_;rintro e W4 ⟨⟨b,rfl,_⟩,A4⟩;have F4:=q_ (F3.o.call A4);have BX:=h_ (Bx W4 W2 (begT start run plain)) (by have:=F4.o.box (i:=0) rfl;rwa [E3.o] at this);have BR:=q_ (F4.o.box (i:=1) rfl);have LR:=q_ (F4.o.len (i:=1) rfl);have Am:=A4.size;clear A4 x0 x1 x2;cases b
 case false =>
  have A2:=h_ (VTs W4 Y3 0 af_ (begT start run plain)) (vts_begT start run plain);go_wp2_with (first | (with_reducible refine ac_ rfl 65 (.tmp 12) rfl _ underlying65 rfl v_ BX.o.whole IS.o ?_) | (with_reducible refine ab_ rfl 65 (.tmp 10) (.tmp 57) rfl (begT start run plain) w_ v_ (BR.o.aj_ LR.o (Nat.le_of_eq A2.o.len)) IS.o A2.o.one ?_));obtain ⟨⟨f9,_⟩,hr⟩:=ret_begin F4.o (i:=1) rfl A2.o 0 ⟨0,start,rfl,rfl,rfl⟩;exact tk_
 have Ah:=BX.o.2.1 42 _ rfl;have Ai:=BX.o.2.1 43 _ rfl;have fx:=BX.o.2.2;obtain ⟨f5,u5⟩:=F4.o.set (i:=0) (j:=42) (t:=.num) (v:=i_ 1) rfl rfl rfl (.num _);obtain ⟨f6,u6⟩:=f5.set (i:=0) (j:=43) (t:=.num) (v:=i_ (wrap64 (start+1))) rfl rfl rfl (.num _);obtain ⟨U,hU⟩:=ex_ ((W4.setCell (f_ W2 42) (i_ 1)).setCell (f_ W2 43) (i_ (wrap64 (start+1))));rw [<-hU] at f6;obtain ⟨xs,A0⟩:=ex_ (((begT start run plain).set 42 (i_ 1)).set 43 (i_ (wrap64 (start+1))));have A8:=h_ (Bx U W2 xs) (by have:=f6.box (i:=0) rfl;rw [upd_same,upd_same,E3.o,<-A0] at this;exact this);have VX:=h_ (VTs U Y3 0 af_ xs) (by have:=f6.whole (i:=0) rfl;rw [upd_same,upd_same,E3.o,<-A0] at this;exact this);have A9:=h_ (∃ st pc,At xs st pc 0) (⟨1,start,x0_,x0_,x0_⟩);have IX:=h_ ((prog.info? 65).map (·.size)=some xs.length) (by rw [VX.o.1];exact av_);have F6:=q_ f6;have BR:=q_ (f6.box (i:=1) rfl);have LR:=q_ (f6.len (i:=1) rfl);clear f5 u5 f6 u6 A0;go_upto_region 13 with fail;rw [<-hU];clear hU Ah Ai fx;go_wp2_with (first | (with_reducible refine ac_ rfl 65 (.tmp 12) rfl _ underlying65 rfl v_ A8.o.whole IX.o ?_) | (with_reducible refine ab_ rfl 65 (.tmp 10) (.tmp 57) rfl (xs) w_ v_ (BR.o.aj_ LR.o (Nat.le_of_eq VX.o.len)) IX.o VX.o.one ?_));obtain ⟨⟨f9,_⟩,hr⟩:=ret_begin F6.o (i:=1) rfl VX.o 0 A9.o;exact tk_
def cq_:List CT:=[.sl ay_,.num,.num,.sl [.num],.sl [.num]] ++ comT ++ [.sl af_,.num]
theorem isz_43:(prog.info? 43).map (·.size)=some cq_.length:=by kernel_rfl
def kM (M:Nat):Nat->Nat:=fun j=>if j=15 then M else 900000000
def owL:Nat->Option TypeId:=fun j=>if j=15 then some 65 else none
def LM (r x q M:Nat):List LV:=[⟨q,fun _=>100,[.sl folT],noOw⟩,⟨x,kM M,cq_,owL⟩,⟨r,fun _=>900000000,cq_,noOw⟩]
structure Cst where
 CA:OA
 cn:Nat
 cc:Nat
 cv:Int
 cs:Int
 WA:OA
 wn:Nat
 wc:Nat
 DA:OA
 dn:Nat
 dc:Nat
 l:List In
structure XC (k:Cst) (us cx:VL):Prop where
 c0:cx[0]?=some (.slice k.CA k.cn k.cc)
 c1:cx[1]?=some (i_ k.cv)
 c2:cx[2]?=some (i_ k.cs)
 c3:cx[3]?=some (.slice k.WA k.wn k.wc)
 c4:cx[4]?=some (.slice k.DA k.dn k.dc)
 cu:∀ (j:Nat) (u:Value),us[j]?=some u->cx[5+j]?=some u
 len:us.length=10
 lx:cx.length=17
structure XT (k:Cst) (N:Nat) (us:VL) (Y:NP) (w:World):Prop where
 co:SlT w Y 2048 ay_ k.CA k.cn k.cc
 li:Sl w w 5 In.cells k.CA k.cn k.l
 wd:SlT w Y 10 [.num] k.WA k.wn k.wc
 dv:SlT w Y 2049 [.num] k.DA k.dn k.dc
 us:VTs w Y N comT us
section
variable {k:Cst} {us vs cx:VL} {N N':Nat} {Y Y' X:NP} {w w':World} {j d:Nat} {v:Value} {L:List LV} {C:Nat->VL}
theorem XC.set (h:XC k us cx) (hj:15<=j):XC k us (cx.set j v):=by
 have f:∀ i,i<15->(cx.set j v)[i]?=cx[i]?:=fun i hi=>by rw [gs_,if_neg o_]
 exact ⟨(f 0 o_).trans h.c0,(f 1 o_).trans h.c1,(f 2 o_).trans h.c2,(f 3 o_).trans h.c3,(f 4 o_).trans h.c4,fun i u hi=>(f _ (by have:=(e_ hi).1;have:=h.len;omega)).trans (h.cu i u hi),h.len,by rw [List.length_set];exact h.lx⟩
theorem em_ {α:Type} {cs ws:List α} {o i:Nat} (ho:o<=cs.length) (hi:i<o\/o+ws.length<=i):(splice cs o ws)[i]?=cs[i]?:=by
 unfold splice;have A0:(cs.take o).length=o:=by rw [List.length_take];omega
 rcases hi with hi | hi
 ·exact u0_
 rw [List.getElem?_append_right z9_,A0,List.getElem?_append_right o_,List.getElem?_drop]
 congr 1;omega
theorem splice_in {α:Type} {cs ws:List α} {o i:Nat} (ho:o<=cs.length) (hi:i<ws.length):(splice cs o ws)[o+i]?=ws[i]?:=by
 unfold splice;have A0:(cs.take o).length=o:=by rw [List.length_take];omega
 rw [List.getElem?_append_right z9_,A0,List.getElem?_append_left o_]
 congr 1;omega
theorem splice_len {α:Type} {cs ws:List α} {o:Nat} (ho:o+ws.length<=cs.length):(splice cs o ws).length=cs.length:=by
 unfold splice;rw [List.length_append,List.length_append,List.length_take,List.length_drop];omega
theorem XC.put (h:XC k us cx) (hv:vs.length=10):XC k vs (splice cx 5 vs):=by
 have f:∀ i,i<5->(splice cx 5 vs)[i]?=cx[i]?:=fun i hi=>em_ (by have:=h.lx;omega) (.inl hi)
 exact ⟨(f 0 o_).trans h.c0,(f 1 o_).trans h.c1,(f 2 o_).trans h.c2,(f 3 o_).trans h.c3,(f 4 o_).trans h.c4,fun i u hi=>(splice_in (by have:=h.lx;omega) (e_ hi).1).trans hi,hv,by rw [splice_len (by have:=h.lx;omega)];exact h.lx⟩
theorem XC.range {x:Nat} (h:XC k us cx) (hb:Bx w x cx):w.rangeAt x 5 us:=fun j v hv=>hb.2.1 _ v (h.cu j v hv)
theorem XT.go (h:XT k N us Y w) (u:Up w Y w' Y'):XT k N us Y' w':=⟨h.co.go u (l_),h.li.go h.co u,h.wd.go u (l_),h.dv.go u (l_),h.us.go u (l_)⟩
theorem XT.more (h:XT k N us Y w) (hN:N<=N'):XT k N' us Y w:=⟨h.co,h.li,h.wd,h.dv,h.us.up (Kp.refl _ _) hN⟩
theorem XT.with (h:XT k N us Y w) (hv:VTs w Y N' comT vs):XT k N' vs Y w:=⟨h.co,h.li,h.wd,h.dv,hv⟩
theorem XT.less (h:XT k N us Y w) (hXY:∀ q,q<w.heap.size->Y' q->Y q):XT k N us Y' w:=h.go ⟨Kp.refl _ _,fun q hq hn hy=>hn (hXY q hq hy)⟩
theorem Fs.lt {w1:World} (h:Fs d X w L Y C w1):∀ q,Y q->q<w1:=by
 obtain ⟨w0,h1,h2,h3⟩:=h;exact h3.lt
theorem Fs.sub {w1:World} (h:Fs d X w L Y C w1):∀ q,X q->Y q:=by
 obtain ⟨w0,h1,h2,h3⟩:=h;exact h3.sub
theorem Fs.box {w1:World} {i b:Nat} {K:Nat->Nat} {ts:List CT} {ow:Nat->Option TypeId} (h:Fs d X w L Y C w1) (hp:L[i]?=some ⟨b,K,ts,ow⟩):Bx w1 b (C b):=by
 obtain ⟨w0,h1,h2,h3⟩:=h;exact h3.box hp
theorem Fs.len {w1:World} {i b:Nat} {K:Nat->Nat} {ts:List CT} {ow:Nat->Option TypeId} (h:Fs d X w L Y C w1) (hp:L[i]?=some ⟨b,K,ts,ow⟩):(C b).length=ts.length:=by
 obtain ⟨w0,h1,h2,h3⟩:=h;exact h3.len hp
end
section
variable {X Z Y:NP} {w0 w w':World} {L:List LV} {C:Nat->VL} {b i j N:Nat} {K:Nat->Nat} {ts e:List CT} {ow:Nat->Option TypeId} {et:TypeId}
theorem Fr.own_nil (h:Fr X Z w0 (⟨b,fun _=>N,ts,noOw⟩ :: L) Y C w) (j0 M:Nat) (et:TypeId) (ht:ts[j0]?=some (.sl e)) (hc:(C b)[j0]?=some (.slice none 0 0)):Fr X Z w0 (⟨b,fun j=>if j=j0 then M else N,ts,fun j=>if j=j0 then some et else none⟩ :: L) Y C w:=by
 have A0:∀ (u:Value) (i:Nat),(if i=j0 then some et else none)≠none->(C b)[i]?=some u->u.ownBlock=none:=fun u i hi hu=>by
  by_cases e:i=j0
  ·subst e;rw [hc] at hu;injection hu with hu;subst hu;rfl
  rw [if_neg e] at hi;exact absurd rfl hi
 refine ⟨h.kp,h.sub,h.lt,fun p hp=>?_,fun p hp j t hj ho=>?_,fun p hp j t A1 hj ho=>?_,fun p hp q hq i j u v g hne A2 A3 hi hj hu=>?_,by have:=h.nd;simpa using this⟩
 ·rcases List.mem_cons.1 hp with rfl | hp
  ·exact h.blk ⟨b,fun _=>N,ts,noOw⟩ (.head _)
  exact h.blk p (.tail _ hp)
 ·rcases List.mem_cons.1 hp with rfl | hp
  ·obtain ⟨v,h1,h2⟩:=h.val ⟨b,fun _=>N,ts,noOw⟩ (.head _) j t hj rfl;have hne:j≠j0:=fun e=>by
    subst e;have ho:(if j=j then some et else none)=none:=ho;rw [if_pos rfl] at ho;cases ho
   refine ⟨v,h1,?_⟩;show VT w Y (if j=j0 then M else N) t v
   rw [if_neg hne];exact h2
  exact h.val p (.tail _ hp) j t hj ho
 ·rcases List.mem_cons.1 hp with rfl | hp
  ·have he:j=j0:=by
    by_cases e:j=j0
    ·exact e
    have ho:(if j=j0 then some et else none)=some A1:=ho;rw [if_neg e] at ho;cases ho
   subst he;have hj:ts[j]?=some t:=hj;rw [ht] at hj;injection hj with hj;subst hj;exact ⟨e,none,0,0,rfl,hc,Nat.zero_le _,OwT.nil _ _ _ _ _ _,fun g hg=>by cases hg⟩
  obtain ⟨e',A,n,c,h1,h2,h3,h4,h5⟩:=h.row p (.tail _ hp) j t A1 hj ho;refine ⟨e',A,n,c,h1,h2,h3,h4,fun g hg=>⟨(h5 g hg).1,(h5 g hg).2.1,fun q hq=>?_⟩⟩;rcases List.mem_cons.1 hq with rfl | hq
  ·exact (h5 g hg).2.2 ⟨b,fun _=>N,ts,noOw⟩ (.head _)
  exact (h5 g hg).2.2 q (.tail _ hq)
 rcases List.mem_cons.1 hp with rfl | hp
 ·rw [A0 u i A2 hi] at hu;cases hu
 rcases List.mem_cons.1 hq with rfl | hq
 ·rw [A0 v j A3 hj];simp
 exact h.far p (.tail _ hp) q (.tail _ hq) i j u v g hne A2 A3 hi hj hu
theorem Fr.row_new {A:OA} {n c:Nat} (h:Fr X Z w0 L Y C w) (hp:L[i]?=some ⟨b,K,ts,ow⟩) (hj:ts[j]?=some (.sl e)) (ho:ow j=some et) (hC:(C b)[j]?=some (.slice A n c)) (hg:w.grownBy w' (Value.slice A n c).ownBlock) (hO:OwT w' 0 et e Y (K j) A n c):Fr X Z w0 L Y C w'/\Up w Y w' Y:=by
 have A4:=Fr.mem hp;obtain ⟨e1,A1,n1,c1,q1,q2,q3,q4,q5⟩:=h.row _ A4 j _ et hj ho;injection q1 with q1;subst q1;rw [show (C b)[j]?=some (.slice A1 n1 c1) from q2] at hC;injection hC with hC;injection hC with ha hb hc;subst ha hb hc;have A7:Kp Y w w':=(Kp.refl _ w).grown hg (fun g hg=>.inl (q5 g hg).1);have A6:Up w Y w' Y:=⟨A7,fun _ _ h=>h⟩;have same:∀ p ∈ L,p.b=b->p=⟨b,K,ts,ow⟩:=fun p hp he=>nodup_eq h.nd hp A4 he
 refine ⟨⟨h.kp.grown hg (fun g A0=>?_),h.sub,fun k hk=>lt_ (h.lt k hk) hg.size,fun p hp=>?_,fun p hp q t hq A3=>?_,fun p hp q t A5 hq A3=>?_,h.far,h.nd⟩,A6⟩
 ·rcases (q5 g A0).2.1 with h3 | h3
  ·exact .inr h3
  exact .inl h3
 ·obtain ⟨h1,h2,h3,h4⟩:=h.blk p hp;exact ⟨h1,h2,h3.kp (X:=fun k=>(Value.slice A1 n1 c1).ownBlock=some k) ((Kp.refl _ w).grown hg (fun g A0=>.inl A0)) (fun he=>(q5 _ he).2.2 p hp rfl),h4⟩
 ·obtain ⟨v,h1,h2⟩:=h.val p hp q t hq A3;exact ⟨v,h1,h2.go A6 (l_)⟩
 by_cases hsame:p.b=b/\q=j
 ·obtain ⟨he,rfl⟩:=hsame;have:=same p hp he;subst this;rw [show ts[q]?=some t from hq] at hj;injection hj with hj;subst hj;rw [show ow q=some A5 from A3] at ho;injection ho with ho;subst ho;exact ⟨e,A1,n1,c1,rfl,q2,q3,hO,q5⟩
 have hne:p.b≠b\/q≠j:=by
  by_cases h1:p.b=b
  ·exact .inr (fun h2=>hsame ⟨h1,h2⟩)
  exact .inl h1
 obtain ⟨e2,A2,n2,c2,r1,r2,r3,r4,r5⟩:=h.row p hp q t A5 hq A3;exact ⟨e2,A2,n2,c2,r1,r2,r3,r4.stay hg (fun k hk=>⟨(q5 k hk).1,fun A0=>h.far p hp _ A4 q j _ _ k hne (by rw [A3];simp) (fun e=>by cases (show some et=none from ho.symm.trans e)) r2 q2 A0 hk⟩),r5⟩
theorem OwT.sets {base g n c k:Nat}:∀ (us:VL) (o:Nat) {w:World},OwT w base et e X N (some (a_ g)) n c->k<n->(∀ (i:Nat) (u:Value),us[i]?=some u->∃ t,e[o+i]?=some t/\VT w (Wi X (some g)) N t u)->OwT (w.setCells g (k*e.length+o) us) base et e X N (some (a_ g)) n c
 | [],o,w,h,_,_=>h
 | v :: r,o,w,h,hk,hv=>by
  obtain ⟨t,ht,A2⟩:=hv 0 v rfl;have h1:=h.set (k:=k) (j:=o) hk (by simpa using ht) A2 ⟨g,k*e.length+o,none⟩ rfl;rw [World.setCells,show k*e.length+o+1=k*e.length+(o+1) from by omega];refine OwT.sets r (o+1) h1 hk (fun i u hi=>?_);obtain ⟨t2,A0,A1⟩:=hv (i+1) u (by simpa using hi);exact ⟨t2,by rw [show o+1+i=o+(i+1) from by omega];exact A0,A1.up ((Kp.refl _ w).setCell (p:=⟨g,k*e.length+o,none⟩) (.inl (.inr rfl)) v) (l_)⟩
theorem grown_sets (g:Nat):∀ (vs:VL) (o:Nat) (w:World),w.grownBy (w.setCells g o vs) (some g)
 | [],_,w=>⟨rfl,rfl,rfl,l_,fun _ _ _=>rfl⟩
 | v :: r,o,w=>by rw [World.setCells];exact (dw_ w ⟨g,o,none⟩ v).trans (grown_sets g r (o+1) _)
end
def RScene (X:NP) (e:Ending) (w:World):Prop:=∃ (k:Cst) (us vs:VL) (A:OA) (n c:Nat) (nx:Int),e=.returned (.agg vs.toArray)/\Hid (XC k us vs)/\Hid (XT k 200000000 us X w)/\vs[15]?=some (.slice A n c)/\n<=16/\Hid (SlT w X 70000 af_ A n c)/\vs[16]?=some (i_ nx)
theorem infoTask:(prog.info? 65).map (fun i=>(i.zero,i.size,i.bytes))=some (some (.agg zl1.toArray),48,480):=by kernel_rfl
theorem Rd.sets {d b:Nat} (hd:d<b):∀ (vs:VL) (o:Nat) {w w':World},Rd d w w'->w<=b->Rd d w (w'.setCells b o vs)
 | [],_,_,_,h,_=>h
 | v :: r,o,w,w',h,hb=>by rw [World.setCells];exact Rd.sets hd r (o+1) (h.set (p:=⟨b,o,none⟩) hd hb v) hb
theorem sx_of {w:World} {x:Nat} {k:Cst} {us cx:VL} {nx:Int} (hb:Bx w x cx) (hc:XC k us cx) (h16:cx[16]?=some (i_ nx)) :
  w.cell? (a_ x)=some (.slice k.CA k.cn k.cc)/\w.cell? (f_ x 1)=some (i_ k.cv)/\w.cell? (f_ x 2)=some (i_ k.cs)/\w.cell? (f_ x 16)=some (i_ nx) :=
 ⟨hb.2.1 0 _ hc.c0,hb.2.1 1 _ hc.c1,hb.2.1 2 _ hc.c2,hb.2.1 16 _ h16⟩
theorem scene_end {d x r i j M N n c:Nat} {X Y:NP} {w w1:World} {L:List LV} {C:Nat->VL} {k:Cst} {us:VL} {A:OA} {nx:Int} (h:Fs d X w L Y C w1) (hx:L[i]?=some ⟨x,kM M,cq_,owL⟩) (hr:L[j]?=some ⟨r,fun _=>900000000,cq_,noOw⟩)
  (hc:XC k us (C x)) (ht:XT k N us Y w1) (hN:N<=200000000) (h15:(C x)[15]?=some (.slice A n c)) (h16:(C x)[16]?=some (i_ nx)) (hn:n<=16) (hM:M<=70000) (hX:∀ q,X q->q<w) (hrw:w<=r) (hdr:d<r) :
  Bx (w1.setCells r 0 (C x)) r (C x)/\(∀ u ∈ C x,u.oneCell'=true)/\RScene X (.returned (.agg (C x).toArray)) (w1.setCells r 0 (C x))/\Rd d w (w1.setCells r 0 (C x)):=by
 have hE:=h.end_;obtain ⟨w0,A6,A9,f⟩:=h;obtain ⟨A0,_,A5,A7⟩:=f.blk _ (Fr.mem hr);have h1:∀ u ∈ C x,u.oneCell'=true:=fun u hu=>by
  obtain ⟨q,hq⟩:=List.getElem?_of_mem hu;have A1:=(e_ hq).1;rw [f.len hx] at A1;by_cases e:q=15
  ·subst e;rw [h15] at hq;injection hq with hq;subst hq;rfl
  obtain ⟨v,hv,A8⟩:=f.val _ (Fr.mem hx) q _ (ge_ A1) (by show (if q=15 then some _ else none)=none;rw [if_neg e]);rw [hq] at hv;injection hv with hv;subst hv;exact A8.one
 obtain ⟨A2,n2,c2,g2,hs⟩:=f.row_out hx (j:=15) (e:=af_) rfl (show owL 15=some 65 from rfl) (X':=fun q=>X q\/q=r) (fun q hq=>by
  rcases hq with hq | hq
  ·exact ⟨f.sub q hq,.inl (by rw [A6.1];exact hX q hq)⟩
  subst hq;exact ⟨A0,.inr ⟨_,Fr.mem hr,rfl⟩⟩)
 rw [h15] at g2;injection g2 with g2;injection g2 with q1 q2 q3;subst q1 q2 q3;have hk:Kp (fun q=>X q\/q=r) w1 (w1.setCells r 0 (C x)):=ai_ r _ 0 (Kp.refl _ w1) (.inl (.inr rfl));have A3:Up w1 (fun q=>X q\/q=r) (w1.setCells r 0 (C x)) X:=⟨hk,fun q _ hq A4=>hq (.inl A4)⟩;refine ⟨A5.all _ (by rw [A7];exact f.len hx),h1,⟨k,us,C x,A,n,c,nx,rfl,q_ hc,q_ (((ht.less (Y':=fun q=>X q\/q=r) (fun q _ hq=>by rcases hq with hq | hq;exact f.sub q hq;subst hq;exact A0)).go A3).more hN),h15,hn,q_ (hs.go A3 (by show (if 15=15 then M else 900000000)<=70000;rw [if_pos rfl];exact hM)),h16⟩,Rd.sets hdr _ 0 hE hrw⟩
theorem fold_sets_at:∀ (vs:VL) (o:Nat) (a:Array Value),o+vs.length=a.size->List.foldl (fun (cs:Array Value) (x:Value × Nat)=>cs.setIfInBounds x.2 x.1) a (vs.zipIdx o)=(a.toList.take o ++ vs).toArray
 | [],o,a,h=>by
  have h:o=a.size:=by simpa using h
  rw [List.append_nil,h,List.take_of_length_le t_];simp
 | v :: r,o,a,h=>by
  have h2:o<a.size:=by simp at h;omega
  rw [List.zipIdx_cons,List.foldl_cons,fold_sets_at r (o+1) _ (by rw [Array.size_setIfInBounds];simp at h;omega)]
  congr 1
  rw [Array.toList_setIfInBounds,List.take_add_one,List.take_set,gs_,if_pos rfl,if_pos xx_];rw [List.set_eq_of_length_le zm_];simp
theorem fold_sets (zs vs:VL) (h:vs.length=zs.length):List.foldl (fun (cs:Array Value) (x:Value × Nat)=>cs.setIfInBounds x.2 x.1) zs.toArray vs.zipIdx=vs.toArray:=by
 rw [fold_sets_at vs 0 zs.toArray x5_];simp
def Md2 (d:Nat) (X:NP) (w:World) (r x q:Nat) (k:Cst) (N M n:Nat) (wr:World) (Y:NP) (C:Nat->VL) (us:VL) (A:OA) (c:Nat) (nx:Int):Prop :=
 Fs d X w (LM r x q M) Y C wr/\XC k us (C x)/\XT k N us Y wr/\(C x)[15]?=some (.slice A n c)/\(C x)[16]?=some (i_ nx)
theorem Md2.pick {d:Nat} {X:NP} {w wr w2:World} {r x q N M n c:Nat} {k:Cst} {Y:NP} {C:Nat->VL} {us:VL} {A:OA} {nx:Int} (h:Md2 d X w r x q k N M n wr Y C us A c nx) (hX:X d) (ht:ct_ wr d w2):Md2 d X w r x q k N M n w2 Y C us A c nx:=by
 obtain ⟨h1,h2,h3,h4,h5⟩:=h;obtain ⟨f,u⟩:=h1.pick hX ht;exact ⟨f,h2,h3.go u,h4,h5⟩
theorem Fs.moreM {d r x q M M':Nat} {X Y:NP} {w w1:World} {C:Nat->VL} (h:Fs d X w (LM r x q M) Y C w1) (hM:M<=M'):Fs d X w (LM r x q M') Y C w1:=h.map (fun w0 _ f=>f.raise rfl (fun i p p' hp A0=>by
 match i,hp,A0 with
 | 0,hp,A0=>injection hp with hp;injection A0 with A0;subst hp A0;exact ⟨rfl,rfl,rfl,fun _=>l_⟩
 | 1,hp,A0 =>
  injection hp with hp
  injection A0 with A0
  subst hp A0
  refine ⟨rfl,rfl,rfl,fun j=>?_⟩
  show (if j=15 then M else 900000000)<=(if j=15 then M' else 900000000)
  split
  ·exact hM
  exact l_
 | 2,hp,A0=>injection hp with hp;injection A0 with A0;subst hp A0;exact ⟨rfl,rfl,rfl,fun _=>l_⟩))
theorem Md2.more {d:Nat} {X:NP} {w wr:World} {r x q N M M' n c:Nat} {k:Cst} {Y:NP} {C:Nat->VL} {us:VL} {A:OA} {nx:Int} (h:Md2 d X w r x q k N M n wr Y C us A c nx) (hM:M<=M'):Md2 d X w r x q k N M' n wr Y C us A c nx:=⟨h.1.moreM hM,h.2⟩
theorem Md2.put {d:Nat} {X:NP} {w wr:World} {r x q N M M' n c kk g:Nat} {k:Cst} {Y:NP} {C:Nat->VL} {us vs:VL} {nx:Int} (h:Md2 d X w r x q k N M n wr Y C us (some (a_ g)) c nx) (hM:M<=M') (hk:kk<n) (hv:VTs wr Y M' af_ vs):Md2 d X w r x q k N M' n (wr.setCells g (kk*48) vs) Y C us (some (a_ g)) c nx:=by
 obtain ⟨h1,h2,h3,h4,h5⟩:=h.more hM;obtain ⟨w0,A4,A3,f⟩:=h1;obtain ⟨A2,n2,c2,_,q2,A6,hO,hY⟩:=f.own (i:=1) (j:=15) (e:=af_) rfl rfl (show owL 15=some 65 from rfl);rw [h4] at q2;injection q2 with q2;injection q2 with e1 e2 e3;subst e1 e2 e3;have A1:=OwT.sets (k:=kk) vs 0 hO hk (fun i u hu=>by
  have hi:i<af_.length:=by rw [<-hv.1];exact (e_ hu).1
  obtain ⟨v,A0,A5⟩:=hv.2 i _ (ge_ hi)
  rw [hu] at A0;injection A0 with A0;subst A0
  refine ⟨af_[i],by rw [Nat.zero_add];exact ge_ hi,A5.less (fun q _ hq=>?_)⟩
  rcases hq with hq | hq
  ·exact hq
  exact hY q hq)
 obtain ⟨f2,u2⟩:=f.row_new (i:=1) (j:=15) rfl rfl (show owL 15=some 65 from rfl) h4 (grown_sets g vs (kk*48) wr) A1;exact ⟨⟨w0,A4,A3,f2⟩,h2,h3.go u2,h4,h5⟩
theorem Md2.el {d:Nat} {X:NP} {w wr:World} {r x q N M n c kk:Nat} {k:Cst} {Y:NP} {C:Nat->VL} {us:VL} {A:OA} {nx:Int} (h:Md2 d X w r x q k N M n wr Y C us A c nx) (hk:kk<n) (hn:n<=M) :
  ∃ g,A=some (a_ g)/\g<wr/\SlE wr wr Y M af_ (some (a_ g)) n/\(∀ j,wr.frozen? (f_ g j)=false)/\∃ vs,VTs wr Y M af_ vs/\∀ (j:Nat) (u:Value),vs[j]?=some u->wr.cell? ⟨g,kk*48+j,none⟩=some u:=by
 obtain ⟨h1,h2,h3,h4,h5⟩:=h;obtain ⟨w0,A4,A3,f⟩:=h1;obtain ⟨A2,n2,c2,_,q2,A5,hO,hY⟩:=f.own (i:=1) (j:=15) (e:=af_) rfl rfl (show owL 15=some 65 from rfl);rw [h4] at q2;injection q2 with q2;injection q2 with e1 e2 e3;subst e1 e2 e3;have hO:OwT wr 0 65 af_ Y M A n c:=hO;obtain ⟨g,rfl,_,A1,A0⟩:=hO.addr o_;have hs:SlE wr wr Y M af_ (some (a_ g)) n:=(hO.sle hn).kept (Kp.refl (fun _=>False) wr) (fun _ _ h=>h.elim) (fun q _ h1 h2=>h1 (.inl h2));obtain ⟨g',o',hA,_,_,vs,hv,hm⟩:=hs.el kk hk;injection hA with hA;injection hA with e1 e2;subst e1 e2;exact ⟨g,rfl,A1,hs,A0,vs,hv,fun j u hu=>by have:=hm j u hu;rwa [Nat.zero_add] at this⟩
end Go.Proofs.YtfolidlmgfhkiaaGreat
namespace Go.Proofs.YtfolidlmgfhkiaaGreat
open Go.RowKit
theorem scene_one {k:Cst} {us vs:VL} {N n c:Nat} {Y:NP} {w:World} {A:OA} {nx:Int} (hc:XC k us vs) (ht:XT k N us Y w) (h15:vs[15]?=some (.slice A n c)) (h16:vs[16]?=some (i_ nx)):∀ u ∈ vs,u.oneCell'=true:=fun u hu=>by
 obtain ⟨q,hq⟩:=List.getElem?_of_mem hu;have A0:=(e_ hq).1;rw [hc.lx] at A0;have f:∀ {i:Nat} {v:Value},vs[i]?=some v->q=i->v.oneCell'=true->u.oneCell'=true:=fun {i v} h e h1=>by subst e;rw [h] at hq;injection hq with hq;subst hq;exact h1
 by_cases h5:q<5
 ·have:q=0\/q=1\/q=2\/q=3\/q=4:=by omega
  rcases this with e | e | e | e | e
  ·exact f hc.c0 e rfl
  ·exact f hc.c1 e rfl
  ·exact f hc.c2 e rfl
  ·exact f hc.c3 e rfl
  exact f hc.c4 e rfl
 by_cases h10:q<15
 ·have hj:q - 5<us.length:=by rw [hc.len];omega
  exact f (hc.cu (q - 5) _ (ge_ hj)) o_ (ht.us.one _ (List.getElem_mem hj))
 have:q=15\/q=16:=by omega
 rcases this with e | e
 ·exact f h15 e rfl
 exact f h16 e rfl
end Go.Proofs.YtfolidlmgfhkiaaGreat
