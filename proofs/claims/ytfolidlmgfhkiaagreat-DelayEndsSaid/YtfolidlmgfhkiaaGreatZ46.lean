/- Lemmas: each says what a function of the program leaves, under the conditions that it states. -/
import Derived.Test.YtfolidlmgfhkiaaGreatZ45
import Derived.MapKept
import Derived.Carry
import Derived.Maps.Own
set_option linter.unusedVariables false
set_option linter.unusedSimpArgs false
set_option maxRecDepth 100000
set_option maxHeartbeats 8000000
namespace Go.Proofs.YtfolidlmgfhkiaaGreat
open Go.RowKit Go.Proofs.Tryz
def RRun (X:NP) (K:Nat) (e:Ending) (w:World):Prop:=∃ (us:VL) (ev:Int),e=.returned (.tuple #[.agg us.toArray,i_ ev])/\VTs w X K ae_ us
theorem ret_run {X:NP} {w0 w:World} {L:List LV} {Y:NP} {C:Nat->VL} {i b N:Nat} {us:VL} (F:Fr X (fun _=>False) w0 L Y C w) (hp:L[i]?=some ⟨b,fun _=>N,ae_,noOw⟩) (hv:VTs w Y N ae_ us) (ev:Int) :
  (∃ f2:Fr X (fun _=>False) w0 L Y (upd C b us) (w.setCells b 0 us),True)/\RRun X N (.returned (.tuple #[.agg (upd C b us b).toArray,i_ ev])) (w.setCells b 0 us)/\Below w0 w0 (w.setCells b 0 us):=by
 obtain ⟨f2,u2⟩:=F.sets (i:=i) hp hv;exact ⟨⟨f2,trivial⟩,⟨_,ev,rfl,(f2.whole hp).less (fun k _ hk=>f2.sub k hk)⟩,f2.below⟩
def Mz (l:List In) (st pc sp:Int) (gk:Nat):Prop:=st=0->0<=sp/\sp+gk<=5000/\(sp<64->5000 - sp<=gk)/\(64<=sp->(opAt l pc=21->1<=gk)/\(opAt l pc≠21->-1<=pc/\((l.length:Int) - pc).toNat+2<=gk))
theorem Mz.pos {l:List In} {pc sp:Int} {gk:Nat} (h:Mz l 0 pc sp gk):1<=gk:=by
 obtain ⟨h0,h1,h2,h3⟩:=h rfl;by_cases h64:sp<64
 ·have:=h2 h64;omega
 obtain ⟨h4,h5⟩:=h3 o_;by_cases hm:opAt l pc=21
 ·exact h4 hm
 have:=(h5 hm).2;omega
theorem Mz.step {l:List In} {pc sp st' pc' sp':Int} {gk:Nat} (h:Mz l 0 pc sp gk) (hs:st'=0->sp'=wrap64 (sp+1)/\-1<=pc/\pc<(l.length:Int)/\l.length<=2048/\(sp'<64∨(opAt l pc≠21/\(pc<pc'∨opAt l pc'=21)))):Mz l st' pc' sp' (gk - 1):=by
 intro h0;obtain ⟨e1,e2,e3,e4,e5⟩:=hs h0;have hp:=h.pos;obtain ⟨h0,h1,h2,h3⟩:=h rfl;have hw:wrap64 (sp+1)=sp+1:=by
  unfold wrap64;omega
 rw [hw] at e1;subst e1;refine ⟨o_,o_,fun A0=>?_,fun A0=>?_⟩
 ·have:=h2 o_;omega
 rcases e5 with e5 | ⟨e5,e6⟩
 ·omega
 by_cases hs64:sp<64
 ·have:=h2 hs64;refine ⟨fun _=>o_,fun hm=>?_⟩;rcases e6 with e6 | e6
  ·exact ⟨o_,o_⟩
  exact absurd e6 hm
 obtain ⟨h7,h8⟩:=(h3 o_).2 e5;refine ⟨fun _=>o_,fun hm=>?_⟩;rcases e6 with e6 | e6
 ·exact ⟨o_,o_⟩
 exact absurd e6 hm
theorem Run_t (X:NP) (K:Nat) (A:OA) (n c:Nat) (v s:Int) (l:List In) (D:OA) (m d:Nat) (L:Nat) (vs:VL) (HA:OA) (hn hc:Nat) (w:World)
  (hco:SlT w X K aw_ A n c) (hl:Sl w w 5 In.cells A n l) (hK:K<=900000000) (hd:SlT w X K [.num] D m d) (ht:VTs w X L ae_ vs) (hL:L<=900000) (hh:SlT w X K objT HA hn hc) (hX:∀ k,X k->k<w) (st pc:Int) (hat:At vs st pc 0) :
  Calls prog 42 #[.agg #[.slice A n c,i_ v,i_ s],.agg #[.slice D m d],.agg vs.toArray,.agg #[.slice HA hn hc]] w fun e w'=>RRun X (L+8000000) e w'/\Below w w w':=by
 obtain ⟨W0,Y0,C0,A5,A9,U0,F0,c0,c1,c2,c3⟩:=Fr.start4 hX K [.sl aw_,.num,.num] [.slice A n c,i_ v,i_ s] 26 (VTs.cons hco.vt (VTs.cons (.num _) (VTs.cons (.num _) VTs.nil))) K [.sl [.num]] [.slice D m d] 32 (vts1 hd) (L+8000000) ae_ vs 65 (ht.up (Kp.refl _ _) o_) K [.sl objT] [.slice HA hn hc] 35 (vts1 hh);obtain ⟨W,Y,C,hW,hz,U1,F,cN,cO⟩:=F0.add1 (L+8000000) ae_ zl1 65 (az_ _ ae_);rw [A9] at F cN cO hz;rw [A5] at hW;have U:=U0.trans U1;have C0:=h_ (C w=[.slice A n c,i_ v,i_ s]) (by rw [cO _ o_];exact c0);have C1:=h_ (C (w+1)=[.slice D m d]) (by rw [cO _ o_];exact c1);have C2:=h_ (C (w+2)=vs) (by rw [cO _ o_];exact c2);have C3:=h_ (C (w+3)=[.slice HA hn hc]) (by rw [cO _ o_];exact c3);have A3:=q_ (hco.go U (l_));have HL:=q_ (hl.go hco U);have HD:=q_ (hd.go U (l_));have HT:=h_ (VTs W Y (L+1600*(5000 - 5000)) ae_ (C (w+2))) (by rw [C2.o];exact ht.go U o_);have HH:=q_ (hh.go U (l_));have HF:=q_ F;have Ac:=h_ (At (C (w+2)) st pc 0) (by rw [C2.o];exact hat);have Ad:=q_ (And.intro C0.o (And.intro C1.o C3.o));have As:(w:Nat)+4<W:=by omega
 clear hco hl hd ht hh hX U0 U1 F0 F c0 c1 c2 c3 cN cO U A5 A9 hat
 go_enter func42,ntmps42;go_upto_region 1 with fail;rw [←hW];clear hW;go_loopg [] 5000 (fun gk wr=>∃ (C':Nat->VL) (Y':NP) (st pc sp:Int),gk<=5000/\Hid (Fr X (fun _=>False) w [⟨w+3+1,fun _=>L+8000000,ae_,noOw⟩,⟨w+3,fun _=>K,[.sl objT],noOw⟩,⟨w+2,fun _=>L+8000000,ae_,noOw⟩,⟨w+1,fun _=>K,[.sl [.num]],noOw⟩,⟨w,fun _=>K,[.sl aw_,.num,.num],noOw⟩] Y' C' wr)/\Hid (VTs wr Y' (L+1600*(5000 - gk)) ae_ (C' (w+2)))/\Hid (At (C' (w+2)) st pc sp)/\Hid (C' w=[.slice A n c,i_ v,i_ s]/\C' (w+1)=[.slice D m d]/\C' (w+3)=[.slice HA hn hc])/\Hid (Up W Y wr Y')/\Hid (Mz l st pc sp gk))
 case atStart=>exact ⟨C,Y,st,pc,0,l_,HF,HT,Ac,Ad,q_ (Up.refl _ _),q_ (fun _=>⟨o_,o_,fun _=>o_,fun h=>o_⟩)⟩
 obtain ⟨A2,Y1,Am,Ai,Ak,Aq,hF,hT,hA,hC,hU,hM⟩:=hrel;have F1:=hF;have BT:=q_ (F1.o.box (i:=2) rfl);have IT:=q_ (F1.o.info (i:=2) rfl ao_);have Ao:=BT.o.2.1 42 _ hA.o.1;have Ar:(w:Nat)+4<wr:=F1.o.blt (i:=0) rfl;clear hF;by_cases hst:Am=0
 case neg =>
  have BR:=q_ (F1.o.box (i:=0) rfl);have LR:=q_ (F1.o.len (i:=0) rfl);have VX:=q_ (F1.o.whole (i:=2) rfl);go_wp2_with (first | (with_reducible refine ac_ rfl 65 (.tmp 6) rfl _ underlying65 rfl v_ BT.o.whole IT.o ?_) | (with_reducible refine ab_ rfl 65 (.tmp 8) (.tmp 28) rfl (A2 (w+2)) w_ v_ (BR.o.ah_ LR.o (Nat.le_of_eq VX.o.len)) IT.o VX.o.one ?_));obtain ⟨⟨f9,_⟩,hr⟩:=ret_run F1.o (i:=0) rfl VX.o 0;refine bh_ results42 (by rfl) underlying65 rfl (f9.info (i:=0) rfl ao_) (f9.box (i:=0) rfl).whole rfl ?_;exact hr
 subst hst;have hp:=hM.o.pos;have a0:=F1.o.cell (i:=4) rfl (j:=0) (v:=.slice A n c) (by rw [hC.o.1];rfl);have a1:=F1.o.cell (i:=4) rfl (j:=1) (v:=i_ v) (by rw [hC.o.1];rfl);have a2:=F1.o.cell (i:=4) rfl (j:=2) (v:=i_ s) (by rw [hC.o.1];rfl);have d0:=F1.o.cell (i:=3) rfl (j:=0) (v:=.slice D m d) (by rw [hC.o.2.1];rfl);have h0:=F1.o.cell (i:=1) rfl (j:=0) (v:=.slice HA hn hc) (by rw [hC.o.2.2];rfl);go_wp2_with (with_reducible refine ac_ rfl 65 (.tmp 6) rfl _ underlying65 rfl v_ BT.o.whole IT.o ?_);refine (Step_t Y1 K A n c v s l D m d (L+1600*(5000 - gk)) (A2 (w+2)) HA hn hc wr (A3.o.go hU.o (l_)) (HL.o.go A3.o hU.o) hK (HD.o.go hU.o (l_)) hT.o o_ (HH.o.go hU.o (l_)) F1.o.lt 0 Ai Ak hA.o).mono ?_;rintro e S ⟨⟨us,ev,rfl,A1,A8⟩,hS⟩;have F3:=q_ (F1.o.call hS);have US:=q_ A1;have IS:=h_ ((prog.info? 65).map (·.size)=some us.length) (by rw [A1.1];exact ao_);have BN:=q_ (Bx.new S zl1 65);have LR:=h_ ((zl1:VL).length=ae_.length) rfl;obtain ⟨N,Y3,D3,hN,Ah,u3,f3,cN,A4⟩:=F3.o.ec_ (L+8000000) ae_ zl1 us 65 (az_ _ ae_) (US.o.up (Kp.refl _ _) o_);have Ap:(w:Nat)+4<S:=F3.o.blt (i:=0) rfl;have F4:=q_ f3;have CN:=q_ cN;have CO:=q_ A4;have U4:=q_ ((hU.o.trans (Up.of_below hS)).trans u3);have Ag:=h_ (VTs N Y3 (L+1600*(5000 - (gk - 1))) ae_ (D3 S)) (by rw [cN];exact A1.go u3 o_);clear hS A1 f3 cN A4 u3 Ah a0 a1 a2 d0 h0 Ao;go_upto_region 3 with (with_reducible refine ab_ rfl 65 (.tmp 10) (.tmp 21) rfl (us) w_ v_ (BN.o.ah_ LR.o (Nat.le_of_eq US.o.len)) IS.o US.o.one ?_);rw [←hN];clear hN;by_cases hev:ev=0
 case neg =>
  have BR:=q_ (F4.o.box (i:=1) rfl);have LR:=q_ (F4.o.len (i:=1) rfl);have HZ:=h_ (VTs N Y3 (L+8000000) ae_ bn_) er_;go_wp2_with (with_reducible refine ab_ rfl 65 (.tmp 8) (.tmp 25) rfl bn_ w_ (by simp [Act.eval,Act.put,bn_]) (BR.o.ah_ LR.o d_) cr_ HZ.o.one ?_);obtain ⟨⟨f9,_⟩,hr⟩:=ret_run F4.o (i:=1) rfl HZ.o ev;refine bh_ results42 (by rfl) underlying65 rfl (f9.info (i:=1) rfl ao_) (f9.box (i:=1) rfl).whole rfl ?_;exact hr
 subst hev;obtain ⟨An,Aj,Al,A0,A6⟩:=A8.o rfl;have Ab:=q_ A0;have Af:=q_ (hM.o.step A6);have BX:=q_ (F4.o.box (i:=0) rfl);have IX:=q_ (F4.o.info (i:=0) rfl ao_);have Aa:=q_ (F4.o.box (i:=3) rfl);have LR:=q_ (F4.o.len (i:=3) rfl);have VX:=q_ (F4.o.whole (i:=0) rfl);have A7:D3 S=us:=CN.o;obtain ⟨f5,u5⟩:=F4.o.sets (i:=3) rfl VX.o;have F5:=q_ f5;have U5:=q_ (U4.o.trans u5);have T5:=q_ (Ag.o.go u5 (l_));have Ae:=q_ A7;clear A8 A0 A6 f5 u5 A7;go_wp2_with (first | (with_reducible refine ac_ rfl 65 (.tmp 10) rfl _ underlying65 rfl v_ BX.o.whole IX.o ?_) | (with_reducible refine ab_ rfl 65 (.tmp 6) (.tmp 27) rfl (D3 S) w_ v_ (Aa.o.ah_ LR.o (Nat.le_of_eq VX.o.len)) IX.o VX.o.one ?_));go_roundg (gk - 1)
 case measure=>omega
 refine ⟨_,Y3,An,Aj,Al,o_,q_ F5.o.tail,q_ ?_,q_ ?_,q_ ⟨?_,?_,?_⟩,U5,Af⟩
 ·rw [upd_same];exact T5.o
 ·rw [upd_same,Ae.o];exact Ab.o
 ·rw [ad_ _ _ o_,CO.o _ o_];exact hC.o.1
 ·rw [ad_ _ _ o_,CO.o _ o_];exact hC.o.2.1
 rw [ad_ _ _ o_,CO.o _ o_];exact hC.o.2.2
def RBegin (X:NP) (e:Ending) (w:World):Prop:=∃ (us:VL) (ev:Int),e=.returned (.tuple #[.agg us.toArray,i_ ev])/\VTs w X 0 ae_ us/\Hid (∃ st pc,At us st pc 0)
theorem ret_begin {X:NP} {w0 w:World} {L:List LV} {Y:NP} {C:Nat->VL} {i b:Nat} {us:VL} (F:Fr X (fun _=>False) w0 L Y C w) (hp:L[i]?=some ⟨b,fun _=>0,ae_,noOw⟩) (hv:VTs w Y 0 ae_ us) (ev:Int) (ha:∃ st pc,At us st pc 0) :
  (∃ f2:Fr X (fun _=>False) w0 L Y (upd C b us) (w.setCells b 0 us),True)/\RBegin X (.returned (.tuple #[.agg (upd C b us b).toArray,i_ ev])) (w.setCells b 0 us)/\Below w0 w0 (w.setCells b 0 us):=by
 obtain ⟨f2,u2⟩:=F.sets (i:=i) hp hv;exact ⟨⟨f2,trivial⟩,⟨_,ev,rfl,(f2.whole hp).less (fun k _ hk=>f2.sub k hk),q_ (by rw [upd_same];exact ha)⟩,f2.below⟩
def begT (start run:Int) (plain:Bool):VL:=[i_ start,i_ run,.bool plain,i_ start,.bool false,i_ 0,.bool false,i_ 0,.bool false,i_ 0,.bool false,i_ 0,.bool false,i_ 0,.bool false,i_ 0,.bool false,i_ 0,.bool false,i_ 0,.bool false,i_ 0,.bool false,i_ 0,.bool false,i_ 0,.bool false,i_ 0,.bool false,i_ 0,.bool false,i_ 0,.bool false,i_ 0,.bool false,i_ 0,.slice none 0 0,.slice none 0 0,.slice none 0 0,.slice none 0 0,.slice none 0 0,.slice none 0 0,i_ 0,i_ 0,.bool false,.bool false,i_ 0,i_ 0]
theorem vts_begT {X:NP} {w:World} (start run:Int) (plain:Bool):VTs w X 0 ae_ (begT start run plain) :=
 VTs.cons (.num _) (VTs.cons (.num _) (VTs.cons (.tru _) (VTs.cons (.num _) (az_ 0 (ae_.drop 4)))))
theorem Begin_t (X:NP) (A:OA) (n c:Nat) (v s:Int) (l:List In) (K:Nat) (start run:Int) (plain:Bool) (w:World) (hco:SlT w X K aw_ A n c) (hl:Sl w w 5 In.cells A n l) (hK:K<=900000000) (hX:∀ k,X k->k<w) :
  Calls prog 41 #[.agg #[.slice A n c,i_ v,i_ s],i_ start,i_ run,.bool plain,.slice none 0 0] w fun e w'=>RBegin X e w'/\Below w w w':=by
 have Ak:=hco.le;obtain ⟨W,Y,C,hW,hz,U,F,c0,c1⟩:=Fr.start2 hX K [.sl aw_,.num,.num] [.slice A n c,i_ v,i_ s] 26 (VTs.cons hco.vt (VTs.cons (.num _) (VTs.cons (.num _) VTs.nil))) 0 ae_ zl1 65 (az_ _ ae_);have C0:=q_ c0;have Aj:=q_ (hco.go U (l_));have HL:=q_ (hl.go hco U);have HF:=q_ F;have KS:=h_ (∀ w',Below W W w'->(w'.cell? (a_ w)=some (.slice A n c)/\w'.cell? (f_ w 1)=some (i_ v)/\w'.cell? (f_ w 2)=some (i_ s))) (fun w' hb=>by
  have f:=HF.o.call hb
  exact ⟨f.cell (i:=1) rfl (by rw [C0.o];rfl),f.cell (i:=1) rfl (by rw [C0.o];rfl),f.cell (i:=1) rfl (by rw [C0.o];rfl)⟩)
 obtain ⟨x0,x1,x2⟩:=KS.o W (b_);clear hco hl hX U F c0 c1;go_enter func41,ntmps41;go_upto_region 1 with fail;rw [←hW];clear hW;go_wp2_with fail;refine (Valid_any A n c v s l W HL.o o_).mono ?_;rintro e W1 ⟨⟨vb,rfl,_⟩,hB⟩;have F1:=q_ (HF.o.call hB);have B1:=q_ hB;have BR:=q_ (F1.o.box (i:=0) rfl);have LR:=q_ (F1.o.len (i:=0) rfl);have HZ:=h_ (VTs W1 Y 0 ae_ bn_) er_;clear hB x0 x1 x2;cases vb
 case false =>
  go_wp2_with (with_reducible refine ab_ rfl 65 (.tmp 10) (.tmp 18) rfl bn_ w_ (by simp [Act.eval,Act.put,bn_]) (BR.o.ah_ LR.o d_) cr_ HZ.o.one ?_);obtain ⟨⟨f2,_⟩,hr⟩:=ret_begin F1.o (i:=0) rfl HZ.o 1 ⟨0,0,rfl,rfl,rfl⟩;refine bh_ results41 (by rfl) underlying65 rfl (f2.info (i:=0) rfl ao_) (f2.box (i:=0) rfl).whole rfl ?_;exact hr
 obtain ⟨x0,x1,x2⟩:=KS.o W1 B1.o;go_wp2_with fail;refine (Beginning_any A n c v s start l W1 (HL.o.up B1.o) o_).mono ?_;rintro e W2 ⟨⟨bb,rfl⟩,A3⟩;have F2:=q_ (F1.o.call A3);have B2:=q_ (B1.o.trans (A3.mono B1.o.size));have BR:=q_ (F2.o.box (i:=0) rfl);have LR:=q_ (F2.o.len (i:=0) rfl);have HZ:=h_ (VTs W2 Y 0 ae_ bn_) er_;clear A3 x0 x1 x2;by_cases hbad:bb=false∨run<0∨1099511627776<run
 ·have A7:(∃ f2:Fr X (fun _=>False) w _ Y (upd C (w+1) bn_) (W2.setCells (w+1) 0 bn_),True)/\_:=ret_begin F2.o (i:=0) rfl HZ.o 2 ⟨0,0,rfl,rfl,rfl⟩;have A1:=q_ A7;clear A7;cases bb
  case false =>
   go_wp2_with (with_reducible refine ab_ rfl 65 (.tmp 10) (.tmp 31) rfl bn_ w_ (by simp [Act.eval,Act.put,bn_]) (BR.o.ah_ LR.o d_) cr_ HZ.o.one ?_);obtain ⟨⟨f2,_⟩,hr⟩:=A1.o;refine bh_ results41 (by rfl) underlying65 rfl (f2.info (i:=0) rfl ao_) (f2.box (i:=0) rfl).whole rfl ?_;exact hr
  by_cases Ae:run<0
  ·clear hbad;go_wp2_with (with_reducible refine ab_ rfl 65 (.tmp 10) (.tmp 31) rfl bn_ w_ (by simp [Act.eval,Act.put,bn_]) (BR.o.ah_ LR.o d_) cr_ HZ.o.one ?_);obtain ⟨⟨f2,_⟩,hr⟩:=A1.o;refine bh_ results41 (by rfl) underlying65 rfl (f2.info (i:=0) rfl ao_) (f2.box (i:=0) rfl).whole rfl ?_;exact hr
  have Af:1099511627776<run:=by rcases hbad with h | h | h;cases h;omega;exact h
  clear hbad;go_wp2_with (with_reducible refine ab_ rfl 65 (.tmp 10) (.tmp 31) rfl bn_ w_ (by simp [Act.eval,Act.put,bn_]) (BR.o.ah_ LR.o d_) cr_ HZ.o.one ?_);obtain ⟨⟨f2,_⟩,hr⟩:=A1.o;refine bh_ results41 (by rfl) underlying65 rfl (f2.info (i:=0) rfl ao_) (f2.box (i:=0) rfl).whole rfl ?_;exact hr
 have Ad:bb=true:=by cases bb;exact absurd (.inl rfl) hbad;rfl
 have Ae:¬run<0:=fun h=>hbad (.inr (.inl h))
 have Af:¬1099511627776<run:=fun h=>hbad (.inr (.inr h))
 subst Ad;clear hbad;obtain ⟨W3,Y3,C3,A5,Ag,u3,f3,c3,Ab⟩:=F2.o.ec_ 0 ae_ zl1 (begT start run plain) 65 (az_ _ ae_) (vts_begT start run plain);have F3:=q_ f3;have E3:=q_ c3;have BN:=q_ (Bx.new W2 zl1 65);have Aa:=h_ ((zl1:VL).length=ae_.length) rfl;have US:=h_ (VTs W2 Y 0 ae_ (begT start run plain)) (vts_begT start run plain);have IS:=h_ ((prog.info? 65).map (·.size)=some (begT start run plain).length) ao_;have Al:(w:Nat)+1<W2:=F2.o.blt (i:=0) rfl;have A6:=h_ (Below W2 W2 W3) (by rw [A5];exact (ai_ _ _ 0 ((Kp.refl (fun _=>False) W2).alloc _) (.inr (l_))).below (l_) (fun _ _ h=>h));obtain ⟨x0,x1,x2⟩:=KS.o W3 (B2.o.trans (A6.o.mono B2.o.size));clear f3 c3 Ab u3 Ag;go_upto_region 6 with (with_reducible refine ab_ rfl 65 (.tmp 12) (.tmp 37) rfl (begT start run plain) w_ (by simp [Act.eval,Act.put,begT]) (BN.o.ah_ Aa.o (Nat.le_of_eq US.o.len)) IS.o US.o.one ?_);rw [←A5];clear A5;have Ac:(W2:Nat)<W3:=F3.o.blt (i:=0) rfl;go_upto_region 7 with fail;go_loopw [40] (fun i wr=>i=i_ 0/\wr=W3) (fun _ _=>0)
 case atStart=>exact ⟨rfl,rfl⟩
 obtain ⟨rfl,rfl⟩:=hrel;go_wp2_with fail;refine (Asks_any A n c v s start l wr (HL.o.up (B2.o.trans (A6.o.mono B2.o.size))) o_).mono ?_;rintro e W4 ⟨⟨b,rfl,_⟩,A4⟩;have F4:=q_ (F3.o.call A4);have BX:=h_ (Bx W4 W2 (begT start run plain)) (by have:=F4.o.box (i:=0) rfl;rwa [E3.o] at this);have BR:=q_ (F4.o.box (i:=1) rfl);have LR:=q_ (F4.o.len (i:=1) rfl);have Am:=A4.size;clear A4 x0 x1 x2;cases b
 case false =>
  have A2:=h_ (VTs W4 Y3 0 ae_ (begT start run plain)) (vts_begT start run plain);go_wp2_with (first | (with_reducible refine ac_ rfl 65 (.tmp 12) rfl _ underlying65 rfl v_ BX.o.whole IS.o ?_) | (with_reducible refine ab_ rfl 65 (.tmp 10) (.tmp 57) rfl (begT start run plain) w_ v_ (BR.o.ah_ LR.o (Nat.le_of_eq A2.o.len)) IS.o A2.o.one ?_));obtain ⟨⟨f9,_⟩,hr⟩:=ret_begin F4.o (i:=1) rfl A2.o 0 ⟨0,start,rfl,rfl,rfl⟩;refine bh_ results41 (by rfl) underlying65 rfl (f9.info (i:=1) rfl ao_) (f9.box (i:=1) rfl).whole rfl ?_;exact hr
 have Ah:=BX.o.2.1 42 _ rfl;have Ai:=BX.o.2.1 43 _ rfl;have fx:=BX.o.2.2;obtain ⟨f5,u5⟩:=F4.o.set (i:=0) (j:=42) (t:=.num) (v:=i_ 1) rfl rfl rfl (.num _);obtain ⟨f6,u6⟩:=f5.set (i:=0) (j:=43) (t:=.num) (v:=i_ (wrap64 (start+1))) rfl rfl rfl (.num _);obtain ⟨U,hU⟩:=ex_ ((W4.setCell (f_ W2 42) (i_ 1)).setCell (f_ W2 43) (i_ (wrap64 (start+1))));rw [←hU] at f6;obtain ⟨xs,A0⟩:=ex_ (((begT start run plain).set 42 (i_ 1)).set 43 (i_ (wrap64 (start+1))));have A8:=h_ (Bx U W2 xs) (by have:=f6.box (i:=0) rfl;rw [upd_same,upd_same,E3.o,←A0] at this;exact this);have VX:=h_ (VTs U Y3 0 ae_ xs) (by have:=f6.whole (i:=0) rfl;rw [upd_same,upd_same,E3.o,←A0] at this;exact this);have A9:=h_ (∃ st pc,At xs st pc 0) (⟨1,start,by rw [A0];rfl,by rw [A0];rfl,by rw [A0];rfl⟩);have IX:=h_ ((prog.info? 65).map (·.size)=some xs.length) (by rw [VX.o.1];exact ao_);have F6:=q_ f6;have BR:=q_ (f6.box (i:=1) rfl);have LR:=q_ (f6.len (i:=1) rfl);clear f5 u5 f6 u6 A0;go_upto_region 13 with fail;rw [←hU];clear hU Ah Ai fx;go_wp2_with (first | (with_reducible refine ac_ rfl 65 (.tmp 12) rfl _ underlying65 rfl v_ A8.o.whole IX.o ?_) | (with_reducible refine ab_ rfl 65 (.tmp 10) (.tmp 57) rfl (xs) w_ v_ (BR.o.ah_ LR.o (Nat.le_of_eq VX.o.len)) IX.o VX.o.one ?_));obtain ⟨⟨f9,_⟩,hr⟩:=ret_begin F6.o (i:=1) rfl VX.o 0 A9.o;refine bh_ results41 (by rfl) underlying65 rfl (f9.info (i:=1) rfl ao_) (f9.box (i:=1) rfl).whole rfl ?_;exact hr
def RWr (e:Ending):Prop:=∃ (x:Cl) (b:Bool),e=.returned (.tuple #[.agg #[i_ x.id,i_ x.field,.bool x.ref,i_ x.n],.bool b])
theorem Wrong_t (X:NP) (K:Nat) (A:OA) (n c:Nat) (L:Nat) (B:OA) (m d:Nat) (w:World) (h:SlT w X K objT A n c) (hK:K<=4398046510976) (hl:SlT w X L as_ B m d) (hL:L<=4398046510976) :
  Calls prog 180 #[.agg #[.slice A n c],.slice B m d] w fun e w'=>RWr e/\Below w w w':=by
 obtain ⟨W,hW,A2,A9,B0,B1⟩:=co_ w [.slice A n c] 35 [i_ 0,i_ 0,.bool false,i_ 0] 87;have H:=q_ (h.up (Kp.of_below A2) (l_));have HC:=q_ (hl.up (Kp.of_below A2) (l_));have A8:=q_ B0;have A5:=q_ B1;have HW:=q_ A2;have hm:=hl.le;have Ae:(w:Nat)<W:=by omega
 clear h hl B0 B1 A2 A9;go_enter func180,ntmps180;go_upto_region 1 with fail;rw [←hW];clear hW;go_upto_region 2 with fail;go_loopw [12] (fun i wr=>∃ k:Nat,k<=m/\i=i_ k/\Below W W wr) (fun i _=>m - (intOf i).toNat)
 case atStart=>exact ⟨0,o_,rfl,b_⟩
 obtain ⟨k,hk,rfl,hb⟩:=hrel;have Aa:=hb.size;have HB:=q_ hb;by_cases hlt:k<m
 ·have A4:(k:Int)<(m:Int):=by omega
  obtain ⟨g,o,rfl,hg,x,hx⟩:=HC.o.dp_ hlt;obtain ⟨c0,c1,c2,c3⟩:=hx wr hb;obtain ⟨V,hV,A7,Ac,V0⟩:=af_ wr [i_ x.id,i_ x.field,.bool x.ref,i_ x.n] 87;have HV:=q_ V0;have A1:=h_ (Below W W V) (hb.trans (A7.mono Aa));have a0:=(A8.o.below A1.o).2.1 0 _ rfl;have v0:=V0.2.1 0 _ rfl;have v1:=V0.2.1 1 _ rfl;clear hx hb A7 V0;go_upto_region 4 with fail;rw [←hV];clear hV c0 c1 c2 c3;go_wp2_with fail;refine (Read_t X K A n c x.id x.field V (H.o.up (Kp.of_below A1.o) (l_)) o_).mono ?_;rintro e S ⟨⟨v,ok,rfl⟩,hS⟩;obtain ⟨T,hT,A6,Ab,T0⟩:=af_ S [.bool v.ref,i_ v.n] 38;have A0:=h_ (Below V V T) (hS.trans (A6.mono hS.size));have A3:=h_ (Below W W T) (A1.o.trans (A0.o.mono A1.o.size));have t0:=T0.2.1 0 _ rfl;have t1:=T0.2.1 1 _ rfl;have v0:=(HV.o.below A0.o).2.1 0 _ rfl;have v1:=(HV.o.below A0.o).2.1 1 _ rfl;have v2:=(HV.o.below A0.o).2.1 2 _ rfl;have v3:=(HV.o.below A0.o).2.1 3 _ rfl;have HR:=q_ (A5.o.below A3.o);have r0:=HR.o.2.1 0 _ rfl;have r1:=HR.o.2.1 1 _ rfl;have r2:=HR.o.2.1 2 _ rfl;have r3:=HR.o.2.1 3 _ rfl;have rf:=HR.o.2.2;have Ad:(w:Nat)+1<T:=HR.o.1;have HF:=h_ (Below w w T) (HW.o.trans (A3.o.mono HW.o.size));clear hS A6 T0 a0;go_upto_region 5 with fail;rw [←hT];clear hT;obtain ⟨vr,vn⟩:=v;obtain ⟨xi,xf,xr,xn⟩:=x;go_wp2;all_goals first
   | (refine bh_ results180 (by rfl) underlying87 rfl k_ (cs:=[_,_,_,_]) ((((HR.o.set 0 _).set 1 _).set 2 _).set 3 _).whole rfl ?_
      exact ⟨⟨⟨xi,xf,xr,xn⟩,true,rfl⟩,(bel HF.o)⟩)
   | (go_roundw
      case rel=>exact ⟨k+1,o_,by go_num,A3.o⟩
      case measure=>simp [intOf];omega)
 have A4:¬(k:Int)<(m:Int):=by omega
 have HR:=q_ (A5.o.below HB.o);have r0:=HR.o.2.1 0 _ rfl;have r1:=HR.o.2.1 1 _ rfl;have r2:=HR.o.2.1 2 _ rfl;have r3:=HR.o.2.1 3 _ rfl;have rf:=HR.o.2.2;have HF:=h_ (Below w w wr) (HW.o.trans (HB.o.mono HW.o.size));clear hb;go_wp2;refine bh_ results180 (by rfl) underlying87 rfl k_ (cs:=[_,_,_,_]) ((((HR.o.set 0 _).set 1 _).set 2 _).set 3 _).whole rfl ?_;exact ⟨⟨⟨0,0,false,0⟩,false,rfl⟩,(bel HF.o)⟩
theorem Reads21_t (X:NP) (K:Nat) (A:OA) (n c:Nat) (L:Nat) (vs:VL) (w:World) (h:SlT w X K objT A n c) (hK:K<=4398046510976) (ht:VTs w X L ae_ vs) (hL:L<=4398046510976) :
  Calls prog 132 #[.agg #[.slice A n c],.agg vs.toArray] w fun e w'=>RWr e/\Below w w w':=by
 obtain ⟨W,hW,A1,A6,B0,B1,B2⟩:=el_ w [.slice A n c] 35 vs 65 [i_ 0,i_ 0,.bool false,i_ 0] 87;obtain ⟨RA,rn,rc,A3,hr⟩:=ht.slc (j:=37) (e:=as_) rfl;have H:=q_ (h.up (Kp.of_below A1) (l_));have HR:=q_ (hr.up (Kp.of_below A1) (l_));have A5:=q_ B2;have HW:=q_ A1;have a0:=B0.2.1 0 _ rfl;have A7:=B1.2.1 37 _ A3;have A9:(w:Nat)+2<W:=by omega
 clear h ht hr B0 B1 B2 A1 A6 A3;go_enter func132,ntmps132;go_upto_region 1 with fail;rw [←hW];clear hW;go_wp2_with fail;refine (Wrong_t X K A n c L RA rn rc W H.o hK HR.o hL).mono ?_;rintro e S ⟨⟨x,b,rfl⟩,hS⟩;obtain ⟨xi,xf,xr,xn⟩:=x;obtain ⟨T,hT,A4,A8,T0⟩:=af_ S [i_ xi,i_ xf,.bool xr,i_ xn] 87;have A2:=h_ (Below W W T) (hS.trans (A4.mono hS.size));have t0:=T0.2.1 0 _ rfl;have t1:=T0.2.1 1 _ rfl;have t2:=T0.2.1 2 _ rfl;have t3:=T0.2.1 3 _ rfl;have A0:=q_ (A5.o.below A2.o);have r0:=A0.o.2.1 0 _ rfl;have r1:=A0.o.2.1 1 _ rfl;have r2:=A0.o.2.1 2 _ rfl;have r3:=A0.o.2.1 3 _ rfl;have rf:=A0.o.2.2;have HF:=h_ (Below w w T) (HW.o.trans (A2.o.mono HW.o.size));clear hS A4 T0 a0 A7;go_upto_region 2 with fail;rw [←hT];clear hT;go_wp2;refine bh_ results132 (by rfl) underlying87 rfl k_ (cs:=[_,_,_,_]) ((((A0.o.set 0 _).set 1 _).set 2 _).set 3 _).whole rfl ?_;exact ⟨⟨⟨xi,xf,xr,xn⟩,!b,rfl⟩,(bel HF.o)⟩
end Go.Proofs.YtfolidlmgfhkiaaGreat
namespace Go.Proofs.YtfolidlmgfhkiaaGreat
open Go.RowKit Go.MapKept
def db_ (w:World) (b:Nat):Prop:=∃ es clock,w.heap[b]?=some (.map es clock)/\∀ x ∈ es.toList,IsKey (.int .i64) x.key/\∃ t:Bool,x.val=.bool t
theorem db_.made (w:World):db_ (w.alloc (.map #[] 0)) w:=⟨#[],0,(MapKept.heap_alloc w _).1,fun x hx=>by simp at hx⟩
theorem db_.lt {w:World} {b:Nat} (h:db_ w b):b<w:=by
 obtain ⟨es,A0,hb,_⟩:=h;rcases Nat.lt_or_ge b w with h | h
 ·exact h
 rw [Array.getElem?_eq_none h] at hb;cases hb
theorem db_.below {w w':World} {b:Nat} (h:db_ w b) (hb:Below w w w'):db_ w' b:=by
 have A1:=h.lt;obtain ⟨es,A0,h1,h2⟩:=h;exact ⟨es,A0,(hb.block b A1).trans h1,h2⟩
theorem db_.look {w:World} {b:Nat} (h:db_ w b) (k:Int):∃ t:Bool,(Instr.lookup 235 (.map (some b)) (i_ k) false).run Tryz.prog w=.ok (.bool t) w:=by
 obtain ⟨es,A0,hb,A1⟩:=h;have hk:IsKey (.int .i64) (i_ k):=rfl;have hz:(zeroValue 4).run Tryz.prog w=.ok (.bool false) w:=by kernel_rfl
 rcases MapKept.findNow_spec hk es.toList 0 (fun x hx=>(A1 x hx).1) with ⟨h1,h2⟩ | ⟨j,e,h1,h2,h3⟩
 ·exact ⟨false,by simp [Instr.lookup,run_underlying Tryz.underlying235,MapKept.run_getObj_map hb,MapKept.run_checkKey Tryz.underlying2 hk,MapKept.run_findKey Tryz.underlying2 h1,hz,Result.andThen]⟩
 obtain ⟨t,ht⟩:=(A1 e (List.mem_of_getElem? h2)).2;exact ⟨t,by simp [Instr.lookup,run_underlying Tryz.underlying235,MapKept.run_getObj_map hb,MapKept.run_checkKey Tryz.underlying2 hk,MapKept.run_findKey Tryz.underlying2 h1,ht,Result.andThen]⟩
theorem db_.put {w:World} {b:Nat} (h:db_ w b) (k:Int) (v:Bool):∃ w',(Instr.mapUpdate 235 (.map (some b)) (i_ k) (.bool v)).run Tryz.prog w=.ok () w'/\db_ w' b/\w.grownBy w' (some b):=by
 obtain ⟨es,A0,hb,A1⟩:=h;have hk:IsKey (.int .i64) (i_ k):=rfl;rcases MapKept.findNow_spec hk es.toList 0 (fun x hx=>(A1 x hx).1) with ⟨h1,h2⟩ | ⟨j,e,h1,h2,h3⟩
 ·refine ⟨{ w with heap:=w.heap.setIfInBounds b (.map (es.push { key:=i_ k,val:=.bool v,born:=A0 }) (A0+1)) },by simp [Instr.mapUpdate,run_underlying Tryz.underlying235,MapKept.run_getObj_map hb,MapKept.run_checkKey Tryz.underlying2 hk,MapKept.run_findKey Tryz.underlying2 h1,MapKept.run_setObj_map _ hb,Result.andThen],⟨_,_,(MapKept.heap_set hb).1,fun x hx=>?_⟩,⟨rfl,rfl,rfl,by simp,fun i _ hi=>(MapKept.heap_set hb).2 i (fun e=>hi (by rw [e]))⟩⟩;simp only [Array.toList_push,List.mem_append,List.mem_singleton] at hx;rcases hx with hx | rfl
  ·exact A1 x hx
  exact ⟨rfl,v,rfl⟩
 have hj:es[j]?=some e:=by simpa using h2
 refine ⟨{ w with heap:=w.heap.setIfInBounds b (.map (es.modify j fun e=>{ key:=i_ k,val:=.bool v,born:=e.born }) A0) },by simp [Instr.mapUpdate,run_underlying Tryz.underlying235,MapKept.run_getObj_map hb,MapKept.run_checkKey Tryz.underlying2 hk,MapKept.run_findKey Tryz.underlying2 h1,hj,h3,MapKept.run_keyThatStays hk,MapKept.run_setObj_map _ hb,Result.andThen],⟨_,_,(MapKept.heap_set hb).1,fun x hx=>?_⟩,⟨rfl,rfl,rfl,by simp,fun i _ hi=>(MapKept.heap_set hb).2 i (fun e=>hi (by rw [e]))⟩⟩;obtain ⟨i,hi⟩:=List.getElem?_of_mem hx;rw [Array.getElem?_toList,Array.getElem?_modify] at hi;by_cases hij:j=i
 ·subst hij;rw [if_pos rfl,hj] at hi;simp at hi;subst hi;exact ⟨rfl,v,rfl⟩
 rw [if_neg hij] at hi;exact A1 x (List.mem_of_getElem? (i:=i) (by rw [Array.getElem?_toList];exact hi))
end Go.Proofs.YtfolidlmgfhkiaaGreat
namespace Go.Proofs.YtfolidlmgfhkiaaGreat
open Go.RowKit Go.Proofs.Tryz
theorem wpList_put {P:Program} {w w':World} {ops:Array Oper} {rest:List Oper} {o:Oper} {a:Act} {Q:Exit->Act->World->Prop} (hg:o.guard=none) (m x v:Operand) (t:TypeId) (hop:o.op=Op.mapUpdate t m x v) (vm vx vv:Value) (hm:a.eval m=vm) (hx:a.eval x=vx) (hv:a.eval v=vv)
  (hr:(Instr.mapUpdate t vm vx vv).run P w=.ok () w') (h:wpList P ops Q rest (a.put o.dst undef) w'):wpList P ops Q (o :: rest) a w:=by
 refine wpList_plain hg fun K' A0=>?_
 unfold Oper.wp;simp [execOp,hop,hm,hx,hv,hr,Result.andThen];exact A0 _ _ h
theorem Check_t (X:NP) (K:Nat) (A:OA) (n c:Nat) (L:Nat) (vs:VL) (w:World) (h:SlT w X K objT A n c) (hK:K<=4398046510976) (ht:VTs w X L ae_ vs) (hL:L<=4398046510976) :
  Calls prog 82 #[.agg #[.slice A n c],.agg vs.toArray] w fun e w'=>RN e/\Below w w w':=by
 obtain ⟨W,hW,A3,AH,B0,B1⟩:=co_ w [.slice A n c] 35 vs 65;obtain ⟨st,Am⟩:=ht.num (j:=42) rfl;obtain ⟨DA,dn,dc,Al,hd⟩:=ht.slc (j:=40) (e:=bl_) rfl;obtain ⟨NA,nn,nc,Ak,Au⟩:=ht.slc (j:=39) (e:=objT) rfl;obtain ⟨WA,wn,wc,Aj,Av⟩:=ht.slc (j:=38) (e:=as_) rfl;have H:=q_ (h.up (Kp.of_below A3) (l_));have HT:=q_ (ht.up (Kp.of_below A3) (l_));have HD:=q_ (hd.up (Kp.of_below A3) (l_));have HN:=q_ (Au.up (Kp.of_below A3) (l_));have HR:=q_ (Av.up (Kp.of_below A3) (l_));have HW:=q_ A3;have KS:=h_ (∀ w',Below W W w'->(w'.cell? (a_ w)=some (.slice A n c)/\w'.cell? (f_ (w+1) 40)=some (.slice DA dn dc)/\w'.cell? (f_ (w+1) 39)=some (.slice NA nn nc)/\w'.cell? (f_ (w+1) 38)=some (.slice WA wn wc)/\Below w w w')) (fun w' hb =>
  ⟨(B0.below hb).2.1 0 _ rfl,(B1.below hb).2.1 40 _ Al,(B1.below hb).2.1 39 _ Ak,(B1.below hb).2.1 38 _ Aj,A3.trans (hb.mono A3.size)⟩)
 have BT:=q_ B1;have IT:=h_ ((prog.info? 65).map (·.size)=some vs.length) (by rw [ht.1];exact ao_);have AK:=B1.2.1 42 _ Am;have AS:(w:Nat)+1<W:=by omega
 clear h ht hd Au Av B0 B1 A3 AH Am Al Ak Aj;go_enter func82,ntmps82;go_upto_region 1 with fail;rw [←hW];clear hW;by_cases hst:st=2∨st=3
 case neg =>
  have s2:¬st=2:=fun h=>hst (.inl h)
  have s3:¬st=3:=fun h=>hst (.inr h)
  have b2:@bne Int (@instBEqOfDecidableEq Int Int.instDecidableEq) st 2=true:=by show (!decide (st=2))=true;simp [s2]
  have b3:@bne Int (@instBEqOfDecidableEq Int Int.instDecidableEq) st 3=true:=by show (!decide (st=3))=true;simp [s3]
  clear hst;go_wp2;go_ret;exact ⟨⟨_,rfl⟩,HW.o⟩
 obtain ⟨a0,_⟩:=KS.o W (b_);rcases hst with rfl | rfl
 all_goals
  go_wp2_with (with_reducible refine ac_ rfl 65 (.tmp 3) rfl _ underlying65 rfl v_ BT.o.whole IT.o ?_);refine (Reads21_t X K A n c L vs W H.o hK HT.o hL).mono ?_;rintro e S ⟨⟨x,b,rfl⟩,hS⟩;obtain ⟨xi,xf,xr,xn⟩:=x;have HS:=q_ hS;clear hS a0 AK;cases b
  case false =>
   go_wp2;go_ret;have hsz:=HS.o.size;exact ⟨⟨_,rfl⟩,(KS.o S HS.o).2.2.2.2.alloc o_ _⟩
  obtain ⟨T,hT,Ap,AG,T0⟩:=af_ S [i_ xi,i_ xf,.bool xr,i_ xn] 87;have Ai:=h_ (Below W W T) (HS.o.trans (Ap.mono HS.o.size));obtain ⟨_,AE,_⟩:=KS.o T Ai.o;clear Ap AG T0;go_upto_region 4 with fail;rw [←hT];clear hT;go_upto_region 7 with fail;clear AE;have AL:=HD.o.le;have AQ:=HN.o.le;have AR:=HR.o.le;go_loopw [39] (fun i wr=>∃ k:Nat,k<=dn/\i=i_ k/\Below W W wr) (fun i _=>dn - (intOf i).toNat)
  case atStart=>exact ⟨0,o_,rfl,Ai.o⟩
  obtain ⟨k,hk,rfl,hb⟩:=hrel;have Aw:=hb.size;have HB:=q_ hb;by_cases hlt:k<dn
  ·have Ae:(k:Int)<(dn:Int):=by omega
   obtain ⟨g,o,rfl,hg,y,hy⟩:=HD.o.delta_at hlt;obtain ⟨c0,c1,c2,c3,c4⟩:=hy wr hb;obtain ⟨V,hV,A1,Aq,V0⟩:=af_ wr [i_ y.id,i_ y.field,i_ y.op,.bool y.ref,i_ y.n] 174;have A0:=h_ (Below W W V) (hb.trans (A1.mono Aw));obtain ⟨a0,_⟩:=KS.o V A0.o;have v0:=V0.2.1 0 _ rfl;have v1:=V0.2.1 1 _ rfl;clear hy hb A1 V0;go_upto_region 9 with fail;rw [←hV];clear hV c0 c1 c2 c3 c4;go_wp2_with fail;refine (Read_t X K A n c y.id y.field V (H.o.up (Kp.of_below A0.o) (l_)) o_).mono ?_;rintro e R ⟨⟨⟨vr,vn⟩,ok,rfl⟩,hR⟩;obtain ⟨Q,hQ,A4,Ao,Q0⟩:=af_ R [.bool vr,i_ vn] 38;have A2:=h_ (Below W W Q) (A0.o.trans ((hR.trans (A4.mono hR.size)).mono A0.o.size));have q0:=Q0.2.1 0 _ rfl;have HF:=q_ (KS.o Q A2.o).2.2.2.2;clear hR A4 Q0 a0 v0 v1;go_upto_region 10 with fail;rw [←hQ];clear hQ;go_wp2;all_goals first
    | (go_ret;exact ⟨⟨_,rfl⟩,HF.o⟩)
    | (go_roundw
       case rel=>exact ⟨k+1,o_,by go_num,A2.o⟩
       case measure=>simp [intOf];omega)
  have Ae:¬(k:Int)<(dn:Int):=by omega
  have AO:=@run_makeMap prog;have Ad:db_ (wr.alloc (.map #[] 0)) wr:=db_.made wr;have Az:=q_ Ad;have Ah:=h_ (Below W W (wr.alloc (.map #[] 0))) (hb.alloc Aw _);obtain ⟨_,_,AD,_⟩:=KS.o _ Ah.o;obtain ⟨mb,Af⟩:=ex_ (wr:Nat);have AA:=h_ (db_ (wr.alloc (.map #[] 0)) mb) (by rw [Af];exact Ad);have AP:W<=mb:=by omega
  clear Ad;go_upto_region 15 with fail;rw [←Af];clear Af AD Az;go_loopw [63] (fun i wr=>∃ k:Nat,k<=nn/\i=i_ k/\Hid (db_ wr mb)/\Below W W wr) (fun i _=>nn - (intOf i).toNat)
  case atStart=>exact ⟨0,o_,rfl,AA,Ah.o⟩
  rename World=>w1
  obtain ⟨k1,AM,rfl,hM,A6⟩:=hrel;have AI:=A6.size;have Ag:=q_ A6;by_cases hlt1:k1<nn
  ·have A8:(k1:Int)<(nn:Int):=by omega
   obtain ⟨g,o,rfl,hg,y,_,_,hy⟩:=HN.o.obj_at hlt1;obtain ⟨c0,c1⟩:=hy w1 A6;obtain ⟨V,hV,A1,Aq,V0⟩:=af_ w1 [i_ y.id,.slice y.A y.n y.c] 90;have A0:=h_ (Below W W V) (A6.trans (A1.mono AI));have HV:=q_ V0;have Ac:=q_ (hM.o.below A1);obtain ⟨a0,_⟩:=KS.o V A0.o;have v0:=V0.2.1 0 _ rfl;clear hy A6 A1 V0;go_upto_region 17 with fail;rw [←hV];clear hV c0 c1;go_wp2_with fail;refine (Get_t X K A n c y.id V (H.o.up (Kp.of_below A0.o) (l_)) o_).mono ?_;rintro e R ⟨⟨oi,oA,on,oc,ob,rfl⟩,hR⟩;obtain ⟨Q,hQ,A4,Ao,Q0⟩:=af_ R [i_ oi,.slice oA on oc] 90;have A5:=h_ (Below V V Q) (hR.trans (A4.mono hR.size));have A2:=h_ (Below W W Q) (A0.o.trans (A5.o.mono A0.o.size));have v0:=(HV.o.below A5.o).2.1 0 _ rfl;have Ab:=q_ (Ac.o.below A5.o);have HF:=q_ (KS.o Q A2.o).2.2.2.2;clear hR A4 Q0 a0;go_upto_region 18 with fail;rw [←hQ];clear hQ;cases ob
   case true =>
    go_wp2;go_ret;exact ⟨⟨_,rfl⟩,HF.o⟩
   obtain ⟨Z,Aa,An,Ar⟩:=Ab.o.put y.id true;have AB:=q_ An;have Ay:=h_ (Below W W Z) (A2.o.trans (am_ Ar A2.o.size (fun k hk=>by injection hk with hk;omega)));have HP:=q_ Aa;clear Aa An Ar;go_wp2_with (at_mapUpdate;refine wpList_put rfl _ _ _ _ rfl _ _ _ w_ w_ w_ HP.o ?_);go_roundw
   case rel=>exact ⟨k1+1,o_,by go_num,AB,Ay.o⟩
   case measure=>simp [intOf];omega
  have A8:¬(k1:Int)<(nn:Int):=by omega
  obtain ⟨_,_,_,AC,_⟩:=KS.o _ Ag.o;go_upto_region 23 with fail;clear AC;go_loopw [82] (fun i wr=>∃ k:Nat,k<=wn/\i=i_ k/\Hid (db_ wr mb)/\Below W W wr) (fun i _=>wn - (intOf i).toNat)
  case atStart=>exact ⟨0,o_,rfl,hM,Ag.o⟩
  rename World=>w2
  obtain ⟨k2,AN,rfl,AF,A7⟩:=hrel;have AJ:=A7.size;have Ax:=q_ A7;by_cases hlt2:k2<wn
  ·have A9:(k2:Int)<(wn:Int):=by omega
   obtain ⟨g,o,rfl,hg,y,hy⟩:=HR.o.dp_ hlt2;obtain ⟨c0,c1,c2,c3⟩:=hy w2 A7;obtain ⟨V,hV,A1,Aq,V0⟩:=af_ w2 [i_ y.id,i_ y.field,.bool y.ref,i_ y.n] 87;have A0:=h_ (Below W W V) (A7.trans (A1.mono AJ));have HV:=q_ V0;have Ac:=q_ (AF.o.below A1);obtain ⟨a0,_⟩:=KS.o V A0.o;have v0:=V0.2.1 0 _ rfl;have v1:=V0.2.1 1 _ rfl;clear hy A7 A1 V0;go_upto_region 25 with fail;rw [←hV];clear hV c0 c1 c2 c3;go_wp2_with fail;refine (Read_t X K A n c y.id y.field V (H.o.up (Kp.of_below A0.o) (l_)) o_).mono ?_;rintro e R ⟨⟨⟨vr,vn⟩,ok,rfl⟩,hR⟩;obtain ⟨Q,hQ,A4,Ao,Q0⟩:=af_ R [.bool vr,i_ vn] 38;have A5:=h_ (Below V V Q) (hR.trans (A4.mono hR.size));have A2:=h_ (Below W W Q) (A0.o.trans (A5.o.mono A0.o.size));have v0:=(HV.o.below A5.o).2.1 0 _ rfl;have Ab:=q_ (Ac.o.below A5.o);obtain ⟨lt,As⟩:=Ab.o.look y.id;have HF:=q_ (KS.o Q A2.o).2.2.2.2;clear hR A4 Q0 a0 v1;go_upto_region 26 with fail;rw [←hQ];clear hQ;cases ok <;> cases lt
   all_goals
    go_wp2;first
     | (go_ret;exact ⟨⟨_,rfl⟩,HF.o⟩)
     | (go_roundw
        case rel=>exact ⟨k2+1,o_,by go_num,Ab,A2.o⟩
        case measure=>simp [intOf];omega)
  have A9:¬(k2:Int)<(wn:Int):=by omega
  go_wp2;go_ret;exact ⟨⟨_,rfl⟩,(KS.o _ Ax.o).2.2.2.2⟩
end Go.Proofs.YtfolidlmgfhkiaaGreat
