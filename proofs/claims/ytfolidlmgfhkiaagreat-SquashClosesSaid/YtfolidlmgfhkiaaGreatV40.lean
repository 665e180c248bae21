/- Lemmas on functions of the program, under the conditions that each states. -/
import Derived.Test.YtfolidlmgfhkiaaGreatV39
set_option linter.unusedVariables false
set_option linter.unusedSimpArgs false
set_option maxRecDepth 100000
set_option maxHeartbeats 8000000
namespace Go.Proofs.YtfolidlmgfhkiaaGreat
open Go.RowKit Go.Proofs.Tryz
def RRun (X:NP) (K:Nat) (e:Ending) (w:World):Prop:=∃ (us:VL) (ev:Int),e=.returned (.tuple #[.agg us.toArray,i_ ev])/\VTs w X K ae_ us
theorem ret_run {X:NP} {w0 w:World} {L:List LV} {Y:NP} {C:Nat->VL} {i b N:Nat} {us:VL} (F:Fr X (fun _=>False) w0 L Y C w) (hp:L[i]?=some ⟨b,fun _=>N,ae_,noOw⟩) (hv:VTs w Y N ae_ us) (ev:Int) :
  (∃ f2:Fr X (fun _=>False) w0 L Y (upd C b us) (w.setCells b 0 us),True)/\RRun X N (.returned (.tuple #[.agg (upd C b us b).toArray,i_ ev])) (w.setCells b 0 us)/\Below w0 w0 (w.setCells b 0 us):=by
 exact vy_
def Mz (l:List In) (st pc sp:Int) (gk:Nat):Prop:=st=0->0<=sp/\sp+gk<=5000/\(sp<64->5000 - sp<=gk)/\(64<=sp->(opAt l pc=21->1<=gk)/\(opAt l pc≠21->-1<=pc/\((l.length:Int) - pc).toNat+2<=gk))
theorem Mz.pos {l:List In} {pc sp:Int} {gk:Nat} (h:Mz l 0 pc sp gk):1<=gk:=by
 obtain ⟨h0,h1,h2,h3⟩:=h rfl;by_cases h64:sp<64
 ·have:=h2 h64;omega
 obtain ⟨h4,h5⟩:=h3 o_;by_cases hm:opAt l pc=21
 ·exact h4 hm
 have:=(h5 hm).2;omega
theorem Mz.step {l:List In} {pc sp st' pc' sp':Int} {gk:Nat} (h:Mz l 0 pc sp gk) (hs:st'=0->sp'=wrap64 (sp+1)/\-1<=pc/\pc<(l.length:Int)/\l.length<=2048/\(sp'<64\/(opAt l pc≠21/\(pc<pc'\/opAt l pc'=21)))):Mz l st' pc' sp' (gk - 1):=by
 intro h0;obtain ⟨e1,e2,e3,e4,e5⟩:=hs h0;have hp:=h.pos;obtain ⟨h0,h1,h2,h3⟩:=h rfl;have hw:wrap64 (sp+1)=sp+1:=by
  unfold wrap64;omega
 rw [hw] at e1;subst e1;refine ⟨o_,o_,fun A0=>?_,fun A0=>?_⟩
 ·have:=h2 o_;omega
 rcases e5 with e5 | ⟨e5,e6⟩
 ·omega
 by_cases hs64:sp<64
 ·have:=h2 hs64;refine ⟨fun _=>o_,fun hm=>?_⟩;rcases e6 with e6 | e6
  ·exact ⟨o_,o_⟩
  exact absurd e6 hm
 obtain ⟨h7,h8⟩:=(h3 o_).2 e5;refine ⟨fun _=>o_,fun hm=>?_⟩;rcases e6 with e6 | e6
 ·exact ⟨o_,o_⟩
 exact absurd e6 hm
theorem Run_t (X:NP) (K:Nat) (A:OA) (n c:Nat) (v s:Int) (l:List In) (D:OA) (m d:Nat) (L:Nat) (vs:VL) (HA:OA) (hn hc:Nat) (w:World)
  (hco:SlT w X K aw_ A n c) (hl:Sl w w 5 In.cells A n l) (hK:K<=900000000) (hd:SlT w X K [.num] D m d) (ht:VTs w X L ae_ vs) (hL:L<=900000) (hh:SlT w X K objT HA hn hc) (hX:∀ k,X k->k<w) (st pc:Int) (hat:At vs st pc 0) :
  Calls prog 42 #[.agg #[.slice A n c,i_ v,i_ s],.agg #[.slice D m d],.agg vs.toArray,.agg #[.slice HA hn hc]] w fun e w'=>RRun X (L+8000000) e w'/\Below w w w':=by
 obtain ⟨W0,Y0,C0,A5,A9,U0,F0,c0,c1,c2,c3⟩:=Fr.start4 hX K [.sl aw_,.num,.num] [.slice A n c,i_ v,i_ s] 26 (VTs.cons hco.vt (VTs.cons (.num _) (VTs.cons (.num _) VTs.nil))) K [.sl [.num]] [.slice D m d] 32 (vts1 hd) (L+8000000) ae_ vs 65 (ht.up (Kp.refl _ _) o_) K [.sl objT] [.slice HA hn hc] 35 (vts1 hh);obtain ⟨W,Y,C,hW,hz,U1,F,cN,cO⟩:=F0.add1 (L+8000000) ae_ zl1 65 (ax_ _ ae_);rw [A9] at F cN cO hz;rw [A5] at hW;have U:=U0.trans U1;have C0:=h_ (C w=[.slice A n c,i_ v,i_ s]) wc_;have C1:=h_ (C (w+1)=[.slice D m d]) wd_;have C2:=h_ (C (w+2)=vs) we_;have C3:=h_ (C (w+3)=[.slice HA hn hc]) (by rw [cO _ o_];exact c3);have A3:=q_ (hco.go U (l_));have HL:=q_ (hl.go hco U);have HD:=q_ (hd.go U (l_));have HT:=h_ (VTs W Y (L+1600*(5000 - 5000)) ae_ (C (w+2))) (by rw [C2.o];exact ht.go U o_);have HH:=q_ (hh.go U (l_));have HF:=q_ F;have Ac:=h_ (At (C (w+2)) st pc 0) (by rw [C2.o];exact hat);have Ad:=q_ (And.intro C0.o (And.intro C1.o C3.o));have As:(w:Nat)+4<W:=by omega
 clear hco hl hd ht hh hX U0 U1 F0 F c0 c1 c2 c3 cN cO U A5 A9 hat
 go_enter func42,ntmps42;go_upto_region 1 with fail;rw [<-hW];clear hW;go_loopg [] 5000 (fun gk wr=>∃ (C':Nat->VL) (Y':NP) (st pc sp:Int),gk<=5000/\Hid (Fr X (fun _=>False) w [⟨w+3+1,fun _=>L+8000000,ae_,noOw⟩,⟨w+3,fun _=>K,[.sl objT],noOw⟩,⟨w+2,fun _=>L+8000000,ae_,noOw⟩,⟨w+1,fun _=>K,[.sl [.num]],noOw⟩,⟨w,fun _=>K,[.sl aw_,.num,.num],noOw⟩] Y' C' wr)/\Hid (VTs wr Y' (L+1600*(5000 - gk)) ae_ (C' (w+2)))/\Hid (At (C' (w+2)) st pc sp)/\Hid (C' w=[.slice A n c,i_ v,i_ s]/\C' (w+1)=[.slice D m d]/\C' (w+3)=[.slice HA hn hc])/\Hid (Up W Y wr Y')/\Hid (Mz l st pc sp gk))
 case atStart=>exact ⟨C,Y,st,pc,0,l_,HF,HT,Ac,Ad,q_ (Up.refl _ _),q_ (fun _=>⟨o_,o_,fun _=>o_,fun h=>o_⟩)⟩
 obtain ⟨A2,Y1,Am,Ai,Ak,Aq,hF,hT,hA,hC,hU,hM⟩:=hrel;have F1:=hF;have BT:=q_ (F1.o.box (i:=2) rfl);have IT:=q_ (F1.o.info (i:=2) rfl au_);have Ao:=BT.o.2.1 42 _ hA.o.1;have Ar:(w:Nat)+4<wr:=F1.o.blt (i:=0) rfl;clear hF;by_cases hst:Am=0
 case neg =>
  have BR:=q_ (F1.o.box (i:=0) rfl);have LR:=q_ (F1.o.len (i:=0) rfl);have VX:=q_ (F1.o.whole (i:=2) rfl);go_wp2_with (first | (with_reducible refine ac_ rfl 65 (.tmp 6) rfl _ underlying65 rfl v_ BT.o.whole IT.o ?_) | (with_reducible refine ab_ rfl 65 (.tmp 8) (.tmp 28) rfl (A2 (w+2)) w_ v_ (BR.o.ai_ LR.o (Nat.le_of_eq VX.o.len)) IT.o VX.o.one ?_));obtain ⟨⟨f9,_⟩,hr⟩:=ret_run F1.o (i:=0) rfl VX.o 0;refine cc_ results42 za_ underlying65 rfl (f9.info (i:=0) rfl au_) (f9.box (i:=0) rfl).whole rfl ?_;exact hr
 subst hst;have hp:=hM.o.pos;have a0:=F1.o.cell (i:=4) rfl (j:=0) (v:=.slice A n c) (by rw [hC.o.1];rfl);have a1:=F1.o.cell (i:=4) rfl (j:=1) (v:=i_ v) (by rw [hC.o.1];rfl);have a2:=F1.o.cell (i:=4) rfl (j:=2) (v:=i_ s) (by rw [hC.o.1];rfl);have d0:=F1.o.cell (i:=3) rfl (j:=0) (v:=.slice D m d) (by rw [hC.o.2.1];rfl);have h0:=F1.o.cell (i:=1) rfl (j:=0) (v:=.slice HA hn hc) (by rw [hC.o.2.2];rfl);go_wp2_with (with_reducible refine ac_ rfl 65 (.tmp 6) rfl _ underlying65 rfl v_ BT.o.whole IT.o ?_);refine (Step_t Y1 K A n c v s l D m d (L+1600*(5000 - gk)) (A2 (w+2)) HA hn hc wr (A3.o.go hU.o (l_)) (HL.o.go A3.o hU.o) hK (HD.o.go hU.o (l_)) hT.o o_ (HH.o.go hU.o (l_)) F1.o.lt 0 Ai Ak hA.o).mono ?_;rintro e S ⟨⟨us,ev,rfl,A1,A8⟩,hS⟩;have F3:=q_ (F1.o.call hS);have US:=q_ A1;have IS:=h_ ((prog.info? 65).map (·.size)=some us.length) w9_;have BN:=q_ (Bx.new S zl1 65);have LR:=h_ ((zl1:VL).length=ae_.length) rfl;obtain ⟨N,Y3,D3,hN,Ah,u3,f3,cN,A4⟩:=F3.o.eb_ (L+8000000) ae_ zl1 us 65 (ax_ _ ae_) (US.o.up (Kp.refl _ _) o_);have Ap:(w:Nat)+4<S:=F3.o.blt (i:=0) rfl;have F4:=q_ f3;have CN:=q_ cN;have CO:=q_ A4;have U4:=q_ ((hU.o.trans (Up.of_below hS)).trans u3);have Ag:=h_ (VTs N Y3 (L+1600*(5000 - (gk - 1))) ae_ (D3 S)) (by rw [cN];exact A1.go u3 o_);clear hS A1 f3 cN A4 u3 Ah a0 a1 a2 d0 h0 Ao;go_upto_region 3 with (with_reducible refine ab_ rfl 65 (.tmp 10) (.tmp 21) rfl (us) w_ v_ (BN.o.ai_ LR.o (Nat.le_of_eq US.o.len)) IS.o US.o.one ?_);rw [<-hN];clear hN;by_cases hev:ev=0
 case neg =>
  have BR:=q_ (F4.o.box (i:=1) rfl);have LR:=q_ (F4.o.len (i:=1) rfl);have HZ:=h_ (VTs N Y3 (L+8000000) ae_ cg_) em_;go_wp2_with (with_reducible refine ab_ rfl 65 (.tmp 8) (.tmp 25) rfl cg_ w_ z2_ (BR.o.ai_ LR.o d_) db_ HZ.o.one ?_);obtain ⟨⟨f9,_⟩,hr⟩:=ret_run F4.o (i:=1) rfl HZ.o ev;refine cc_ results42 za_ underlying65 rfl (f9.info (i:=1) rfl au_) (f9.box (i:=1) rfl).whole rfl ?_;exact hr
 subst hev;obtain ⟨An,Aj,Al,A0,A6⟩:=A8.o rfl;have Ab:=q_ A0;have Af:=q_ (hM.o.step A6);have BX:=q_ (F4.o.box (i:=0) rfl);have IX:=q_ (F4.o.info (i:=0) rfl au_);have Aa:=q_ (F4.o.box (i:=3) rfl);have LR:=q_ (F4.o.len (i:=3) rfl);have VX:=q_ (F4.o.whole (i:=0) rfl);have A7:D3 S=us:=CN.o;obtain ⟨f5,u5⟩:=F4.o.sets (i:=3) rfl VX.o;have F5:=q_ f5;have U5:=q_ (U4.o.trans u5);have T5:=q_ (Ag.o.go u5 (l_));have Ae:=q_ A7;clear A8 A0 A6 f5 u5 A7;go_wp2_with (first | (with_reducible refine ac_ rfl 65 (.tmp 10) rfl _ underlying65 rfl v_ BX.o.whole IX.o ?_) | (with_reducible refine ab_ rfl 65 (.tmp 6) (.tmp 27) rfl (D3 S) w_ v_ (Aa.o.ai_ LR.o (Nat.le_of_eq VX.o.len)) IX.o VX.o.one ?_));go_roundg (gk - 1)
 case measure=>omega
 refine ⟨_,Y3,An,Aj,Al,o_,q_ F5.o.tail,q_ ?_,q_ ?_,q_ ⟨?_,?_,?_⟩,U5,Af⟩
 ·rw [upd_same];exact T5.o
 ·rw [upd_same,Ae.o];exact Ab.o
 ·rw [ad_ _ _ o_,CO.o _ o_];exact hC.o.1
 ·rw [ad_ _ _ o_,CO.o _ o_];exact hC.o.2.1
 rw [ad_ _ _ o_,CO.o _ o_];exact hC.o.2.2
def RBegin (X:NP) (e:Ending) (w:World):Prop:=∃ (us:VL) (ev:Int),e=.returned (.tuple #[.agg us.toArray,i_ ev])/\VTs w X 0 ae_ us/\Hid (∃ st pc,At us st pc 0)
theorem ret_begin {X:NP} {w0 w:World} {L:List LV} {Y:NP} {C:Nat->VL} {i b:Nat} {us:VL} (F:Fr X (fun _=>False) w0 L Y C w) (hp:L[i]?=some ⟨b,fun _=>0,ae_,noOw⟩) (hv:VTs w Y 0 ae_ us) (ev:Int) (ha:∃ st pc,At us st pc 0) :
  (∃ f2:Fr X (fun _=>False) w0 L Y (upd C b us) (w.setCells b 0 us),True)/\RBegin X (.returned (.tuple #[.agg (upd C b us b).toArray,i_ ev])) (w.setCells b 0 us)/\Below w0 w0 (w.setCells b 0 us):=by
 obtain ⟨f2,u2⟩:=F.sets (i:=i) hp hv;exact ⟨⟨f2,trivial⟩,⟨_,ev,rfl,(f2.whole hp).less (fun k _ hk=>f2.sub k hk),q_ (by rw [upd_same];exact ha)⟩,f2.below⟩
def begT (start run:Int) (plain:Bool):VL:=[i_ start,i_ run,.bool plain,i_ start,.bool false,i_ 0,.bool false,i_ 0,.bool false,i_ 0,.bool false,i_ 0,.bool false,i_ 0,.bool false,i_ 0,.bool false,i_ 0,.bool false,i_ 0,.bool false,i_ 0,.bool false,i_ 0,.bool false,i_ 0,.bool false,i_ 0,.bool false,i_ 0,.bool false,i_ 0,.bool false,i_ 0,.bool false,i_ 0,.slice none 0 0,.slice none 0 0,.slice none 0 0,.slice none 0 0,.slice none 0 0,.slice none 0 0,i_ 0,i_ 0,.bool false,.bool false,i_ 0,i_ 0]
theorem vts_begT {X:NP} {w:World} (start run:Int) (plain:Bool):VTs w X 0 ae_ (begT start run plain) :=
 VTs.cons (.num _) (VTs.cons (.num _) (VTs.cons (.tru _) (VTs.cons (.num _) (ax_ 0 (ae_.drop 4)))))
theorem Begin_t (X:NP) (A:OA) (n c:Nat) (v s:Int) (l:List In) (K:Nat) (start run:Int) (plain:Bool) (w:World) (hco:SlT w X K aw_ A n c) (hl:Sl w w 5 In.cells A n l) (hK:K<=900000000) (hX:∀ k,X k->k<w) :
  Calls prog 41 #[.agg #[.slice A n c,i_ v,i_ s],i_ start,i_ run,.bool plain,.slice none 0 0] w fun e w'=>RBegin X e w'/\Below w w w':=by
 have Ak:=hco.le;obtain ⟨W,Y,C,hW,hz,U,F,c0,c1⟩:=Fr.start2 hX K [.sl aw_,.num,.num] [.slice A n c,i_ v,i_ s] 26 (VTs.cons hco.vt (VTs.cons (.num _) (VTs.cons (.num _) VTs.nil))) 0 ae_ zl1 65 (ax_ _ ae_);have C0:=q_ c0;have Aj:=q_ (hco.go U (l_));have HL:=q_ (hl.go hco U);have HF:=q_ F;have KS:=h_ (∀ w',Below W W w'->(w'.cell? (a_ w)=some (.slice A n c)/\w'.cell? (f_ w 1)=some (i_ v)/\w'.cell? (f_ w 2)=some (i_ s))) (fun w' hb=>by
  have f:=HF.o.call hb
  exact ⟨f.cell (i:=1) rfl zw_,f.cell (i:=1) rfl zw_,f.cell (i:=1) rfl zw_⟩)
 obtain ⟨x0,x1,x2⟩:=KS.o W (b_);clear hco hl hX U F c0 c1;go_enter func41,ntmps41;go_upto_region 1 with fail;rw [<-hW];clear hW;go_wp2_with fail;refine (Valid_any A n c v s l W HL.o o_).mono ?_;rintro e W1 ⟨⟨vb,rfl,_⟩,hB⟩;have F1:=q_ (HF.o.call hB);have B1:=q_ hB;have BR:=q_ (F1.o.box (i:=0) rfl);have LR:=q_ (F1.o.len (i:=0) rfl);have HZ:=h_ (VTs W1 Y 0 ae_ cg_) em_;clear hB x0 x1 x2;cases vb
 case false =>
  go_wp2_with (with_reducible refine ab_ rfl 65 (.tmp 10) (.tmp 18) rfl cg_ w_ z2_ (BR.o.ai_ LR.o d_) db_ HZ.o.one ?_);obtain ⟨⟨f2,_⟩,hr⟩:=ret_begin F1.o (i:=0) rfl HZ.o 1 ⟨0,0,rfl,rfl,rfl⟩;refine cc_ results41 za_ underlying65 rfl (f2.info (i:=0) rfl au_) (f2.box (i:=0) rfl).whole rfl ?_;exact hr
 obtain ⟨x0,x1,x2⟩:=KS.o W1 B1.o;go_wp2_with fail;refine (Beginning_any A n c v s start l W1 (HL.o.up B1.o) o_).mono ?_;rintro e W2 ⟨⟨bb,rfl⟩,A3⟩;have F2:=q_ (F1.o.call A3);have B2:=q_ (B1.o.trans (A3.mono B1.o.size));have BR:=q_ (F2.o.box (i:=0) rfl);have LR:=q_ (F2.o.len (i:=0) rfl);have HZ:=h_ (VTs W2 Y 0 ae_ cg_) em_;clear A3 x0 x1 x2;by_cases hbad:bb=false\/run<0\/1099511627776<run
 ·have A7:(∃ f2:Fr X (fun _=>False) w _ Y (upd C (w+1) cg_) (W2.setCells (w+1) 0 cg_),True)/\_:=ret_begin F2.o (i:=0) rfl HZ.o 2 ⟨0,0,rfl,rfl,rfl⟩;have A1:=q_ A7;clear A7;cases bb
  case false =>
   go_wp2_with (with_reducible refine ab_ rfl 65 (.tmp 10) (.tmp 31) rfl cg_ w_ z2_ (BR.o.ai_ LR.o d_) db_ HZ.o.one ?_);obtain ⟨⟨f2,_⟩,hr⟩:=A1.o;refine cc_ results41 za_ underlying65 rfl (f2.info (i:=0) rfl au_) (f2.box (i:=0) rfl).whole rfl ?_;exact hr
  by_cases Ae:run<0
  ·exact vr_
  have Af:1099511627776<run:=by rcases hbad with h | h | h;cases h;omega;exact h
  exact vr_
 have Ad:bb=true:=by cases bb;exact absurd (.inl rfl) hbad;rfl
 have Ae:¬run<0:=fun h=>hbad (.inr (.inl h))
 have Af:¬1099511627776<run:=fun h=>hbad (.inr (.inr h))
 subst Ad;clear hbad;obtain ⟨W3,Y3,C3,A5,Ag,u3,f3,c3,Ab⟩:=F2.o.eb_ 0 ae_ zl1 (begT start run plain) 65 (ax_ _ ae_) (vts_begT start run plain);have F3:=q_ f3;have E3:=q_ c3;have BN:=q_ (Bx.new W2 zl1 65);have Aa:=h_ ((zl1:VL).length=ae_.length) rfl;have US:=h_ (VTs W2 Y 0 ae_ (begT start run plain)) (vts_begT start run plain);have IS:=h_ ((prog.info? 65).map (·.size)=some (begT start run plain).length) au_;have Al:(w:Nat)+1<W2:=F2.o.blt (i:=0) rfl;have A6:=h_ (Below W2 W2 W3) (by rw [A5];exact (ag_ _ _ 0 ((Kp.refl (fun _=>False) W2).alloc _) (.inr (l_))).below (l_) (fun _ _ h=>h));obtain ⟨x0,x1,x2⟩:=KS.o W3 (B2.o.trans (A6.o.mono B2.o.size));clear f3 c3 Ab u3 Ag;go_upto_region 6 with (with_reducible refine ab_ rfl 65 (.tmp 12) (.tmp 37) rfl (begT start run plain) w_ (by simp [Act.eval,Act.put,begT]) (BN.o.ai_ Aa.o (Nat.le_of_eq US.o.len)) IS.o US.o.one ?_);rw [<-A5];clear A5;have Ac:(W2:Nat)<W3:=F3.o.blt (i:=0) rfl;go_upto_region 7 with fail;go_loopw [40] (fun i wr=>i=i_ 0/\wr=W3) (fun _ _=>0)
 case atStart=>exact ⟨rfl,rfl⟩
 obtain ⟨rfl,rfl⟩:=hrel;go_wp2_with fail;refine (Asks_any A n c v s start l wr (HL.o.up (B2.o.trans (A6.o.mono B2.o.size))) o_).mono ?_;rintro e W4 ⟨⟨b,rfl,_⟩,A4⟩;have F4:=q_ (F3.o.call A4);have BX:=h_ (Bx W4 W2 (begT start run plain)) (by have:=F4.o.box (i:=0) rfl;rwa [E3.o] at this);have BR:=q_ (F4.o.box (i:=1) rfl);have LR:=q_ (F4.o.len (i:=1) rfl);have Am:=A4.size;clear A4 x0 x1 x2;cases b
 case false =>
  have A2:=h_ (VTs W4 Y3 0 ae_ (begT start run plain)) (vts_begT start run plain);go_wp2_with (first | (with_reducible refine ac_ rfl 65 (.tmp 12) rfl _ underlying65 rfl v_ BX.o.whole IS.o ?_) | (with_reducible refine ab_ rfl 65 (.tmp 10) (.tmp 57) rfl (begT start run plain) w_ v_ (BR.o.ai_ LR.o (Nat.le_of_eq A2.o.len)) IS.o A2.o.one ?_));obtain ⟨⟨f9,_⟩,hr⟩:=ret_begin F4.o (i:=1) rfl A2.o 0 ⟨0,start,rfl,rfl,rfl⟩;exact u7_
 have Ah:=BX.o.2.1 42 _ rfl;have Ai:=BX.o.2.1 43 _ rfl;have fx:=BX.o.2.2;obtain ⟨f5,u5⟩:=F4.o.set (i:=0) (j:=42) (t:=.num) (v:=i_ 1) rfl rfl rfl (.num _);obtain ⟨f6,u6⟩:=f5.set (i:=0) (j:=43) (t:=.num) (v:=i_ (wrap64 (start+1))) rfl rfl rfl (.num _);obtain ⟨U,hU⟩:=ex_ ((W4.setCell (f_ W2 42) (i_ 1)).setCell (f_ W2 43) (i_ (wrap64 (start+1))));rw [<-hU] at f6;obtain ⟨xs,A0⟩:=ex_ (((begT start run plain).set 42 (i_ 1)).set 43 (i_ (wrap64 (start+1))));have A8:=h_ (Bx U W2 xs) (by have:=f6.box (i:=0) rfl;rw [upd_same,upd_same,E3.o,<-A0] at this;exact this);have VX:=h_ (VTs U Y3 0 ae_ xs) (by have:=f6.whole (i:=0) rfl;rw [upd_same,upd_same,E3.o,<-A0] at this;exact this);have A9:=h_ (∃ st pc,At xs st pc 0) (⟨1,start,xs_,xs_,xs_⟩);have IX:=h_ ((prog.info? 65).map (·.size)=some xs.length) (by rw [VX.o.1];exact au_);have F6:=q_ f6;have BR:=q_ (f6.box (i:=1) rfl);have LR:=q_ (f6.len (i:=1) rfl);clear f5 u5 f6 u6 A0;go_upto_region 13 with fail;rw [<-hU];clear hU Ah Ai fx;go_wp2_with (first | (with_reducible refine ac_ rfl 65 (.tmp 12) rfl _ underlying65 rfl v_ A8.o.whole IX.o ?_) | (with_reducible refine ab_ rfl 65 (.tmp 10) (.tmp 57) rfl (xs) w_ v_ (BR.o.ai_ LR.o (Nat.le_of_eq VX.o.len)) IX.o VX.o.one ?_));obtain ⟨⟨f9,_⟩,hr⟩:=ret_begin F6.o (i:=1) rfl VX.o 0 A9.o;exact u7_
end Go.Proofs.YtfolidlmgfhkiaaGreat
