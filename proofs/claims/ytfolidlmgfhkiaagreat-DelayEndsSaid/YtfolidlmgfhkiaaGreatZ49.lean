/- speculatelaw29.DelayEnds holds: whatever the input, it returns true and leaves its arguments as they were. No condition. -/
import Derived.Test.YtfolidlmgfhkiaaGreatZ48
import Derived.ProofKit
import Derived.Deep.Slices
import Derived.Deep.Fields
import Derived.ChangeSame
set_option linter.unusedVariables false
set_option linter.unusedSimpArgs false
set_option maxRecDepth 100000
set_option maxHeartbeats 100000000
namespace Go.Proofs.YtfolidlmgfhkiaaGreat
open Go.RowKit Go.Proofs.Tryz
theorem hK15 {N:Nat} (h:N<=900000000):∀ j,5<=j->j<5+comT.length->N<=kM 1600 j/\owL j=none:=fun j h1 h2=>by
 have h2:j<5+10:=h2;have A0:j≠15:=by omega
 constructor
 ·show N<=(if j=15 then 1600 else 900000000);rw [if_neg A0];exact h
 show (if j=15 then some _ else none)=none;rw [if_neg A0]
theorem slt_n {w:World} {X:NP} {K K' n c:Nat} {A:OA} (h:SlT w X K folT A n c) (hn:n<=K'):SlT w X K' folT A n c:=by
 refine ⟨hn,h.cap,h.max,h.nul,fun ad hA=>?_⟩;obtain ⟨g,o,e,hg,hX,f,hf,ht⟩:=h.at_ ad hA;refine ⟨g,o,e,hg,hX,f,hf,fun k j t hk hj=>?_⟩;have hv:=ht k j t hk hj;have:t=.num:=by
  match j,hj with
  | 0,hj=>injection hj with hj;exact hj.symm
  | 1,hj=>injection hj with hj;exact hj.symm
  | 2,hj=>injection hj with hj;exact hj.symm
 subst this;obtain ⟨i,hi⟩:=hv.int;rw [hi];exact .num _
def Md1 (d:Nat) (X:NP) (w:World) (r x q:Nat) (k:Cst) (m:Nat) (wr:World):Prop:=∃ (Y:NP) (C:Nat->VL) (us:VL) (QA:OA) (qn qc:Nat) (nx:Int),
 Fs d X w (LM r x q 1600) Y C wr/\XC k us (C x)/\XT k (3000+16000000*m) us Y wr/\C q=[.slice QA qn qc]/\SlT wr Y m folT QA qn qc/\(C x)[15]?=some (.slice none 0 0)/\(C x)[16]?=some (i_ nx)
theorem Md1.pick {d:Nat} {X:NP} {w wr w2:World} {r x q:Nat} {k:Cst} {m:Nat} (h:Md1 d X w r x q k m wr) (hX:X d) (ht:cx_ wr d w2):Md1 d X w r x q k m w2:=by
 obtain ⟨Y,C,us,QA,qn,qc,nx,h1,h2,h3,h4,h5,h6,h7⟩:=h;obtain ⟨f,u⟩:=h1.pick hX ht;exact ⟨Y,C,us,QA,qn,qc,nx,f,h2,h3.go u,h4,h5.go u (l_),h6,h7⟩
theorem Made_m (d:Nat) (X:NP) (w:World) (hD:Dice w d) (hX:∀ k,X k->k<w) (hXd:X d) :
  Calls prog 9 #[.pointer (some (a_ d))] w fun e w'=>RScene X e w'/\Rd d w w':=by
 obtain ⟨i0,Fn,Fw,F2,Fz⟩:=info_parts infoTask;obtain ⟨W,Y0,C0,hW,F8,U0,F0,c0⟩:=Fr.start1 hX 900000000 cq_ zl7 43 (az_ _ cq_);have EC:W=w.alloc (.cells zl7.toArray 43):=hW;have B3:=q_ (F0.fs hD);have AB:=q_ hXd;have ED:=q_ hX;have EX:=hD.lt;have Ec:=q_ (B3.o.dice);have EV:(W:Nat)=w+1:=F8;have FU:=q_ EV;clear hD hX hXd hW F8 U0 F0 c0 EV;go_enter func9,ntmps9;go_upto_region 1 with fail;rw [←EC];clear EC;go_wp2_with fail;refine (Code_m d Y0 W Ec.o B3.o.lt (B3.o.sub _ AB.o)).mono ?_;rintro e w1 ⟨⟨CA,cn,cc,cv,cs,rfl,hC⟩,DO⟩;obtain ⟨F3,_⟩:=B3.o.rd AB.o DO;have D7:=q_ F3;have E9:=q_ DO.dice;have BW:=q_ hC.o;clear F3 DO hC B3 Ec;go_wp2_with fail;refine (World_m d Y0 w1 E9.o D7.o.lt (D7.o.sub _ AB.o)).mono ?_;rintro e w2 ⟨⟨WA,wn,wc,rfl,DQ⟩,EN⟩;obtain ⟨FD,BU⟩:=D7.o.rd AB.o EN;have Br:=q_ (BW.o.go BU (l_));obtain ⟨w0,A1,A0,f⟩:=FD;have FC:(w:Nat)<w2:=f.blt (i:=0) rfl;have HZ:=h_ (VTs w2 Y0 900000000 cq_ zl7) (az_ _ cq_);have HV:=q_ (show VTs w2 Y0 900000000 cq_ [.slice CA cn cc,i_ cv,i_ cs,.slice WA wn wc,.slice none 0 0,.slice none 0 0,i_ 0,i_ 0,.slice none 0 0,.bool false,.bool false,.bool false,i_ 0,i_ 0,i_ 0,.slice none 0 0,i_ 0] from
  VTs.cons (Br.o.up (Kp.refl _ _) d_).vt (VTs.cons (.num _) (VTs.cons (.num _) (VTs.cons (DQ.o.up (Kp.refl _ _) d_).vt (az_ _ ([.sl [.num]] ++ comT ++ [.sl ae_,.num]))))))
 have BN:=q_ (Bx.new w2 zl7 43);have LR:=h_ ((zl7:VL).length=cq_.length) rfl;obtain ⟨V,Y,C,hV,EU,u3,f3,c3,EG⟩:=f.ec_ 900000000 cq_ zl7 _ 43 HZ.o HV.o;have IV:=h_ ((prog.info? 43).map (·.size)=some ([.slice CA cn cc,i_ cv,i_ cs,.slice WA wn wc,.slice none 0 0,.slice none 0 0,i_ 0,i_ 0,.slice none 0 0,.bool false,.bool false,.bool false,i_ 0,i_ 0,i_ 0,.slice none 0 0,i_ 0]:VL).length) isz_43;obtain ⟨x,hx⟩:=ex_ (w2:Nat);have Cx:=q_ (DQ.o.go u3 (l_));have AK:=q_ (Br.o.go u3 (l_));go_upto_region 2 with (with_reducible refine ab_ rfl 43 (.tmp 3) (.tmp 21) rfl ([.slice CA cn cc,i_ cv,i_ cs,.slice WA wn wc,.slice none 0 0,.slice none 0 0,i_ 0,i_ 0,.slice none 0 0,.bool false,.bool false,.bool false,i_ 0,i_ 0,i_ 0,.slice none 0 0,i_ 0]) w_ v_ (BN.o.ah_ LR.o (Nat.le_of_eq HV.o.len)) IV.o HV.o.one ?_);rw [←hV,←hx];rw [←hx] at f3 c3 EG FC EU;have AA:=q_ c3;have Bg:=h_ (Fs d X w [⟨x,kM 1600,cq_,owL⟩,⟨w,fun _=>900000000,cq_,noOw⟩] Y C V) (⟨w0,A1,A0,f3.own_nil 15 1600 65 rfl (by rw [c3];rfl)⟩);clear hV hx f f3 c3 EG u3 A1 A0 BU DQ EN D7 E9 BW Br HZ HV BN LR IV EU;obtain ⟨l,hl⟩:=AK.o.insts;have Dr:=q_ hl;have Ea:=q_ Bg.o.dice;have x0:=Bg.o.box (i:=0) rfl |>.2.1 0 _ (by rw [AA.o];rfl)
 have x1:=Bg.o.box (i:=0) rfl |>.2.1 1 _ (by rw [AA.o];rfl)
 have x2:=Bg.o.box (i:=0) rfl |>.2.1 2 _ (by rw [AA.o];rfl)
 clear hl;go_wp2_with fail;refine (Division_m d Y 2048 CA cn cc cv cs l V Ea.o Bg.o.lt (Bg.o.sub _ AB.o) AK.o Dr.o d_).mono ?_;rintro e w4 ⟨⟨DA,dn,dc,rfl,DN⟩,EO⟩;obtain ⟨FE,Dh⟩:=Bg.o.rd AB.o EO;have Cy:=q_ (Cx.o.go Dh (l_));have Ek:=q_ (Dr.o.go AK.o Dh);have Bs:=q_ (AK.o.go Dh (l_));obtain ⟨w0,A1,A0,f⟩:=FE;clear x0 x1 x2;have z4:=f.cell (i:=0) rfl (j:=4) (by rw [AA.o];rfl);have zf:=f.fz (i:=0) rfl;obtain ⟨V5,C5,EQ,f5,u5,k5,e5,FJ⟩:=f.set1 (i:=0) (j:=4) rfl rfl rfl (v:=.slice DA dn dc) ((DN.o.up (Kp.refl _ _) d_).vt);have BM:=h_ (Fs d X w [⟨x,kM 1600,cq_,owL⟩,⟨w,fun _=>900000000,cq_,noOw⟩] Y C5 V5) (⟨w0,A1,A0,f5⟩);have Ak:=h_ (C5 x=[.slice CA cn cc,i_ cv,i_ cs,.slice WA wn wc,.slice DA dn dc,.slice none 0 0,i_ 0,i_ 0,.slice none 0 0,.bool false,.bool false,.bool false,i_ 0,i_ 0,i_ 0,.slice none 0 0,i_ 0]) (by rw [e5,AA.o];rfl);have Cz:=q_ (Cy.o.go u5 (l_));have Dt:=q_ (Ek.o.go Bs.o u5);have AZ:=q_ (Bs.o.go u5 (l_));have BZ:=q_ (DN.o.go u5 (l_));clear f f5 u5 k5 e5 FJ A1 A0 Dh DN EO Bg Ea AA AK Dr Cx Bs Ek Cy;go_upto_region 3 with fail;rw [←EQ];clear EQ z4 zf;have x0:=BM.o.box (i:=0) rfl |>.2.1 0 _ (by rw [Ak.o];rfl)
 have x1:=BM.o.box (i:=0) rfl |>.2.1 1 _ (by rw [Ak.o];rfl)
 have x2:=BM.o.box (i:=0) rfl |>.2.1 2 _ (by rw [Ak.o];rfl)
 go_wp2_with fail;refine (Begin22_t Y 2048 CA cn cc cv cs l V5 AZ.o Dt.o d_ BM.o.lt).mono ?_;rintro e V6 ⟨⟨us,ev,rfl,BV⟩,BQ⟩;have Eu:=q_ (BM.o.call BQ);have Cq:=h_ (XT ⟨CA,cn,cc,cv,cs,WA,wn,wc,DA,dn,dc,l⟩ 100 us Y V6) (⟨AZ.o.go (.of_below BQ) (l_),Dt.o.go AZ.o (Up.of_below (Y:=Y) BQ),Cz.o.go (.of_below BQ) (l_),BZ.o.go (.of_below BQ) (l_),BV⟩);have A5:=h_ (XC ⟨CA,cn,cc,cv,cs,WA,wn,wc,DA,dn,dc,l⟩ us (splice (C5 x) 5 us)) (XC.put (us:=zl3) (by
  rw [Ak.o]
  exact ⟨rfl,rfl,rfl,rfl,rfl,fun j u hj=>by
   have Fu:=(e_ hj).1
   rw [←List.getElem?_drop]
   exact (List.getElem?_append_left (l₂:=[.slice none 0 0,i_ 0]) Fu).trans hj,rfl,rfl⟩) BV.1)
 have C9:=h_ ((C5 x)[15]?=some (.slice none 0 0)/\(C5 x)[16]?=some (i_ 0)/\(C5 x).length=17) (by rw [Ak.o];exact ⟨rfl,rfl,rfl⟩);have Cw:=q_ BV;have IU:=h_ ((prog.info? 40).map (·.size)=some us.length) (by rw [BV.1];exact cn_);obtain ⟨w0,A1,A0,f⟩:=Eu.o;have Ez:=h_ (V6.there x 5 us.length) (f.there (i:=0) rfl (by rw [BV.1];decide));obtain ⟨V7,C7,ES,f7,u7,k7,e7,FL⟩:=f.part1 (i:=0) rfl 5 (us:=comT) (N:=100) rfl d_ Cw.o (fun j h1 h2=>by
  have h2:j<5+10:=h2
  have AD:j≠15:=by omega
  constructor
  ·show 100<=(if j=15 then 1600 else 900000000);rw [if_neg AD];decide
  show (if j=15 then some _ else none)=none;rw [if_neg AD])
 have Ev:=h_ (Fs d X w [⟨x,kM 1600,cq_,owL⟩,⟨w,fun _=>900000000,cq_,noOw⟩] Y C7 V7) (⟨w0,A1,A0,f7⟩);have BO:=q_ (Cq.o.go u7);have Ay:=q_ (show XC ⟨CA,cn,cc,cv,cs,WA,wn,wc,DA,dn,dc,l⟩ us (C7 x)/\(C7 x)[15]?=some (.slice none 0 0)/\(C7 x)[16]?=some (i_ 0) from by
  rw [e7]
  exact ⟨A5.o,by rw [eg_ (by rw [C9.o.2.2];decide) (.inr (by rw [Cw.o.1];decide))];exact C9.o.1,by rw [eg_ (by rw [C9.o.2.2];decide) (.inr (by rw [Cw.o.1];decide))];exact C9.o.2.1⟩)
 clear f f7 u7 k7 e7 FL A1 A0 BV BQ BM Eu Ak Cq A5 C9 AZ Dt Cz BZ x0 x1 x2;go_upto_region 4 with (with_reducible refine ab_ rfl 40 (.tmp 33) (.tmp 31) rfl us w_ v_ Ez.o IU.o Cw.o.one ?_);rw [←ES];clear ES Ez IU Cw;obtain ⟨k,hk⟩:∃ k:Cst,k=⟨CA,cn,cc,cv,cs,WA,wn,wc,DA,dn,dc,l⟩:=⟨_,rfl⟩;rw [←hk] at BO Ay;obtain ⟨w0,A1,A0,f⟩:=Ev.o;obtain ⟨V8,Y8,C8,ET,E4,u8,f8,c8,CD⟩:=f.add1 100 [.sl folT] [.slice none 0 0] 99 (vts1 (cl_ _ _ _ _));obtain ⟨q,hq⟩:=ex_ (V7:Nat);have DY:x<V7:=f.blt (i:=0) rfl;rw [←hq] at f8 c8 CD;have Dv:=h_ (Md1 d X w w x q k 0 V8) (⟨Y8,C8,us,none,0,0,0,⟨w0,A1,A0,f8⟩,by rw [CD _ o_];exact Ay.o.1,(BO.o.go u8).more d_,c8,cl_ _ _ _ _,by rw [CD _ o_];exact Ay.o.2.1,by rw [CD _ o_];exact Ay.o.2.2⟩);have G2:x<q:=by omega
 clear f f8 u8 c8 CD E4 A1 A0 Ev BO Ay hk DY;go_upto_region 5 with fail;rw [←ET,←hq];clear ET hq;have Ed:=h_ (Dice V8 d) (by obtain ⟨_,_,_,_,_,_,_,h,_⟩:=Dv.o;exact h.dice);go_wp2_with fail;refine (bo_ d 9 V8 Ed.o d_ d_).mono ?_;rintro e w9 ⟨m0,G3,rfl,F6,-⟩;have El:=q_ (Dv.o.pick AB.o F6);clear F6 Dv Ed;go_upto_block 0 with fail;go_cut [] (fun wx=>∃ m,m<=8/\Hid (Md1 d X w w x q k m wx))
 case first =>
  go_wp2_with fail;go_loopw [5] (fun i wr=>∃ m:Nat,m<=m0/\i=i_ ((m0:Int) - (m:Int))/\Hid (Md1 d X w w x q k m wr)) (fun i _=>(intOf i).toNat)
  case atStart=>exact ⟨0,o_,by simp,El⟩
  obtain ⟨m,hm,rfl,hM⟩:=hrel;obtain ⟨Y,C,us,QA,qn,qc,nx,AE,AW,AF,hq,BS,AD,B8⟩:=hM.o;by_cases Fv:m<m0
  case neg =>
   have hI:¬(0:Int)<(m0:Int) - (m:Int):=by omega
   clear AE AW AF hq BS AD B8;go_wp2_with fail;go_meet;exact ⟨m,o_,hM⟩
  case pos =>
  have hI:(0:Int)<(m0:Int) - (m:Int):=by omega
  obtain ⟨en,u4⟩:=AF.us.tru (j:=4) rfl;have y9:=(AE.box (i:=1) rfl).2.1 9 _ (AW.cu 4 _ u4);have Ae:=q_ AE;have A5:=q_ AW;have AC:=q_ AF;have HQ:=q_ hq;have Cf:=q_ BS;have AH:=q_ AD;have Az:=q_ B8;clear AE AW AF hq BS AD B8 u4;cases en
  case true =>
   go_wp2_with fail;go_meet;exact ⟨m,o_,hM⟩
  case false =>
  clear hM;have FZ:3000+16000000*m<=200000000:=by omega
  have x0:=(Ae.o.box (i:=1) rfl).2.1 0 _ A5.o.c0;have x1:=(Ae.o.box (i:=1) rfl).2.1 1 _ A5.o.c1;have x2:=(Ae.o.box (i:=1) rfl).2.1 2 _ A5.o.c2;have x3:=(Ae.o.box (i:=1) rfl).2.1 3 _ A5.o.c3;have RS:=q_ (A5.o.range (Ae.o.box (i:=1) rfl));have IU:=h_ ((prog.info? 40).map (·.size)=some us.length) (by rw [A5.o.len];exact cn_);go_wp2_with (with_reducible refine ac_ rfl 40 (.tmp 51) rfl _ underlying40 rfl v_ RS.o IU.o ?_);refine (Ask_t Y 2048 k.CA k.cn k.cc k.cv k.cs k.l (3000+16000000*m) k.WA k.wn k.wc us wr AC.o.co AC.o.li o_ o_ (AC.o.wd.up (Kp.refl _ _) d_) AC.o.us Ae.o.lt).mono ?_;rintro e w3 ⟨⟨Bb,ev,rfl,BG⟩,Av⟩;have Ef:=q_ (Ae.o.call Av);have Ex:=q_ (AC.o.go (Up.of_below Av));have En:=q_ (Cf.o.go (Up.of_below Av) (l_));have DI:=q_ BG;have D9:=h_ ((prog.info? 40).map (·.size)=some Bb.length) (by rw [BG.1];exact cn_);have BN:=q_ (Bx.new w3 zl3 40);have LR:=h_ ((zl3:VL).length=comT.length) rfl;obtain ⟨w0,A1,A0,f⟩:=Ef.o;obtain ⟨V4,Y4,C4,EP,FI,u4,f4,c4,CB⟩:=f.ec_ 900000000 comT zl3 Bb 40 (az_ _ comT) (DI.o.up (Kp.refl _ _) o_);have E1:x<w3:=f.blt (i:=1) rfl;have G5:q<w3:=f.blt (i:=0) rfl;have D2:=h_ (Fs d X w (⟨w3,fun _=>900000000,comT,noOw⟩ :: LM w x q 1600) Y4 C4 V4) (⟨w0,A1,A0,f4⟩);have DH:=q_ (Ex.o.go u4);have Dz:=q_ (En.o.go u4 (l_));have Aj:=q_ (DI.o.go u4 (l_));have AY:=h_ (C4 w3=Bb/\XC k us (C4 x)/\C4 q=[.slice QA qn qc]/\(C4 x)[15]?=some (.slice none 0 0)/\(C4 x)[16]?=some (i_ nx)) (⟨c4,by rw [CB _ o_];exact A5.o,by rw [CB _ o_];exact HQ.o,by rw [CB _ o_];exact AH.o,by rw [CB _ o_];exact Az.o⟩);clear f f4 c4 CB FI u4 A1 A0 Av BG x0 x1 x2 x3 y9 RS IU Ae A5 AC HQ Cf AH Az Ef Ex En DI;go_upto_region 9 with (with_reducible refine ab_ rfl 40 (.tmp 6) (.tmp 54) rfl (Bb) w_ v_ (BN.o.ah_ LR.o (Nat.le_of_eq Aj.o.len)) D9.o Aj.o.one ?_);rw [←EP];clear EP BN LR;by_cases hev:ev=0
  case pos =>
   subst hev;have BT:=h_ (Bx V4 w3 Bb) (by have:=D2.o.box (i:=0) rfl;rwa [AY.o.1] at this);obtain ⟨w0,A1,A0,f⟩:=D2.o;have TH:=h_ (V4.there x 5 Bb.length) (f.there (i:=2) rfl (by rw [Aj.o.1];decide));obtain ⟨WV,CV,CJ,CE,BJ,CW,B7,E6⟩:=f.part1 (i:=2) rfl 5 (us:=comT) (N:=(3000+16000000*m+500)) rfl d_ Aj.o (hK15 o_);have Dw:=q_ (show Md1 d X w w x q k (m+1) (V4.setCells x 5 Bb) from by
    rw [←CJ]
    exact ⟨Y4,CV,Bb,QA,qn,qc,nx,⟨w0,A1,A0,CE.tail⟩,by rw [B7];exact AY.o.2.1.put Aj.o.1,((DH.o.with Aj.o).go BJ).more o_,by rw [CW _ o_];exact AY.o.2.2.1,(Dz.o.go BJ (l_)).up (Kp.refl _ _) o_,by rw [B7,eg_ (by rw [AY.o.2.1.lx];decide) (.inr (by rw [Aj.o.1];decide))];exact AY.o.2.2.2.1,by rw [B7,eg_ (by rw [AY.o.2.1.lx];decide) (.inr (by rw [Aj.o.1];decide))];exact AY.o.2.2.2.2⟩)
   clear f CJ CE BJ CW B7 E6 A1 A0;go_wp2_with (first | (with_reducible refine ac_ rfl 40 (.tmp 6) rfl _ underlying40 rfl v_ BT.o.whole D9.o ?_) | (with_reducible refine ab_ rfl 40 (.tmp 59) (.tmp 58) rfl Bb w_ v_ TH.o D9.o Aj.o.one ?_) | fail);go_roundw
   case rel=>exact ⟨m+1,o_,by go_num,Dw⟩
   case measure=>simp [intOf];omega
  case neg =>
  obtain ⟨w0,A1,A0,f⟩:=D2.o;have Be:=h_ (Fs d X w (LM w x q 1600) Y4 C4 V4) (⟨w0,A1,A0,f.tail⟩);have Cp:=h_ (XT k (3000+16000000*m) us Y4 V4) DH.o;have Ak:=h_ (XC k us (C4 x)/\C4 q=[.slice QA qn qc]/\(C4 x)[15]?=some (.slice none 0 0)/\(C4 x)[16]?=some (i_ nx)) AY.o.2;clear f A1 A0 D2 DH Aj AY D9;obtain ⟨st,u1⟩:=Cp.o.us.num (j:=1) rfl;have x0:=(Be.o.box (i:=1) rfl).2.1 0 _ Ak.o.1.c0;have x1:=(Be.o.box (i:=1) rfl).2.1 1 _ Ak.o.1.c1;have x2:=(Be.o.box (i:=1) rfl).2.1 2 _ Ak.o.1.c2;have x6:=(Be.o.box (i:=1) rfl).2.1 6 _ (Ak.o.1.cu 1 _ u1);have D1:=(Be.o.box (i:=1) rfl).2.1 16 _ Ak.o.2.2.2;clear u1;go_wp2_with fail;refine (Begin_t Y4 k.CA k.cn k.cc k.cv k.cs k.l 2048 st nx true V4 Cp.o.co Cp.o.li d_ Be.o.lt).mono ?_;rintro e w5 ⟨⟨ts,DM,rfl,Ar,CK⟩,Dc⟩;have Eg:=q_ (Be.o.call Dc);have Cq:=q_ (Cp.o.go (Up.of_below Dc));have Eo:=q_ (Dz.o.go (Up.of_below Dc) (l_));have Cs:=q_ Ar;have IT:=h_ ((prog.info? 65).map (·.size)=some ts.length) (by rw [Ar.1];exact ao_);have BN:=q_ (Bx.new w5 zl1 65);have LR:=h_ ((zl1:VL).length=ae_.length) rfl;obtain ⟨w0,A1,A0,f⟩:=Eg.o;obtain ⟨V6,Y6,C6,ER,FK,u6,f6,c6,CC⟩:=f.ec_ 9000000 ae_ zl1 ts 65 (az_ _ ae_) (Cs.o.up (Kp.refl _ _) o_);have FH:x<w5:=f.blt (i:=1) rfl;have FA:q<w5:=f.blt (i:=0) rfl;have D3:=h_ (Fs d X w (⟨w5,fun _=>9000000,ae_,noOw⟩ :: LM w x q 1600) Y6 C6 V6) (⟨w0,A1,A0,f6⟩);have BO:=q_ (Cq.o.go u6);have Ep:=q_ (Eo.o.go u6 (l_));have Ct:=q_ (Cs.o.go u6 (l_));have Ay:=h_ (C6 w5=ts/\XC k us (C6 x)/\C6 q=[.slice QA qn qc]/\(C6 x)[15]?=some (.slice none 0 0)/\(C6 x)[16]?=some (i_ nx)) (⟨c6,by rw [CC _ o_];exact Ak.o.1,by rw [CC _ o_];exact Ak.o.2.1,by rw [CC _ o_];exact Ak.o.2.2.1,by rw [CC _ o_];exact Ak.o.2.2.2⟩);clear f f6 c6 CC FK u6 A1 A0 Dc Ar x0 x1 x2 x6 D1 Be Cp Dz Ak Eg Cq Eo;go_upto_region 12 with (with_reducible refine ab_ rfl 65 (.tmp 8) (.tmp 69) rfl (ts) w_ v_ (BN.o.ah_ LR.o (Nat.le_of_eq Cs.o.len)) IT.o Cs.o.one ?_);rw [←ER];clear ER BN LR Cs;obtain ⟨w0,A1,A0,f⟩:=D3.o;have D1:=f.cell (i:=2) rfl Ay.o.2.2.2.2;have xf:=f.fz (i:=2) rfl;obtain ⟨DL,BK,CI,f8,u8,k8,e8,E4⟩:=f.set1 (i:=2) (j:=16) rfl rfl rfl (v:=i_ (wrap64 (nx+1))) (.num _);have B1:=h_ (Fs d X w (⟨w5,fun _=>9000000,ae_,noOw⟩ :: LM w x q 1600) Y6 BK DL) (⟨w0,A1,A0,f8⟩);have BP:=q_ (BO.o.go u8);have Er:=q_ (Ep.o.go u8 (l_));have Cu:=q_ (Ct.o.go u8 (l_));have AJ:=h_ (BK w5=ts/\XC k us (BK x)/\BK q=[.slice QA qn qc]/\(BK x)[15]?=some (.slice none 0 0)/\(BK x)[16]?=some (i_ (wrap64 (nx+1)))) (⟨by rw [k8 _ o_];exact Ay.o.1,by rw [e8];exact Ay.o.2.1.set o_,by rw [k8 _ o_];exact Ay.o.2.2.1,by rw [e8,gs_,if_neg d_];exact Ay.o.2.2.2.1,by rw [e8,gs_,if_pos rfl,if_pos (e_ Ay.o.2.2.2.2).1]⟩);clear f f8 u8 k8 e8 E4 A1 A0 D3 BO Ep Ct Ay;go_upto_region 13 with fail
  rw [←CI];clear CI D1 xf;obtain ⟨HA,hn,hc,u0,hh⟩:=BP.o.us.slc (j:=0) (e:=objT) rfl;have Ej:=q_ hh;obtain ⟨FP,FN,CL⟩:=CK.o;have BL:=q_ CL;have x0:=(B1.o.box (i:=2) rfl).2.1 0 _ AJ.o.2.1.c0;have x1:=(B1.o.box (i:=2) rfl).2.1 1 _ AJ.o.2.1.c1;have x2:=(B1.o.box (i:=2) rfl).2.1 2 _ AJ.o.2.1.c2;have x4:=(B1.o.box (i:=2) rfl).2.1 4 _ AJ.o.2.1.c4;have x5:=(B1.o.box (i:=2) rfl).2.1 5 _ (AJ.o.2.1.cu 0 _ u0);have BT:=h_ (Bx DL w5 ts) (by have:=B1.o.box (i:=0) rfl;rwa [AJ.o.1] at this);clear hh u0 CL CK
  go_wp2_with (first | (with_reducible refine ac_ rfl 65 (.tmp 8) rfl _ underlying65 rfl v_ BT.o.whole IT.o ?_) | fail);refine (Run_t Y6 (3000+16000000*m) k.CA k.cn k.cc k.cv k.cs k.l k.DA k.dn k.dc 0 ts HA hn hc DL (BP.o.co.up (Kp.refl _ _) o_) BP.o.li o_ (BP.o.dv.up (Kp.refl _ _) o_) Cu.o o_ Ej.o B1.o.lt FP FN BL.o).mono ?_;rintro e w9 ⟨⟨rs,FW,rfl,DV⟩,De⟩;have D4:=q_ (B1.o.call De);have Ey:=q_ (BP.o.go (Up.of_below De));have Es:=q_ (Er.o.go (Up.of_below De) (l_));have Cg:=h_ (VTs w9 Y6 8000000 ae_ rs) (DV.up (Kp.refl _ _) o_);have IR:=h_ ((prog.info? 65).map (·.size)=some rs.length) (by rw [DV.1];exact ao_);have BR:=q_ (D4.o.box (i:=0) rfl);have LR:=q_ (D4.o.len (i:=0) rfl);obtain ⟨w0,A1,A0,f⟩:=D4.o;obtain ⟨DK,Bo,CF,EK,Di,CS,EH,E2⟩:=f.sets1 (i:=0) rfl (Cg.o.up (Kp.refl _ _) o_);have An:=h_ (Fs d X w (⟨w5,fun _=>9000000,ae_,noOw⟩ :: LM w x q 1600) Y6 Bo DK) (⟨w0,A1,A0,EK⟩);have By:=q_ (Ey.o.go Di);have B2:=q_ (Es.o.go Di (l_));have Af:=q_ (Cg.o.go Di (l_));have Ab:=h_ (Bo w5=rs/\XC k us (Bo x)/\Bo q=[.slice QA qn qc]/\(Bo x)[15]?=some (.slice none 0 0)/\(Bo x)[16]?=some (i_ (wrap64 (nx+1)))) (⟨EH,by rw [CS _ o_];exact AJ.o.2.1,by rw [CS _ o_];exact AJ.o.2.2.1,by rw [CS _ o_];exact AJ.o.2.2.2.1,by rw [CS _ o_];exact AJ.o.2.2.2.2⟩);clear f EK Di CS EH E2 A1 A0 De DV B1 BP Er Cu AJ D4 Ey Es Ej BL x0 x1 x2 x4 x5 BT IT;go_upto_region 14 with (with_reducible refine ab_ rfl 65 (.tmp 8) (.tmp 85) rfl (rs) w_ v_ (BR.o.ah_ LR.o (Nat.le_of_eq Cg.o.len)) IR.o Cg.o.one ?_);rw [←CF];clear CF BR LR Cg;obtain ⟨tq,Fa⟩:=Af.o.num (j:=42) rfl;obtain ⟨FO,r0⟩:=Af.o.num (j:=0) rfl;obtain ⟨FM,Fb⟩:=Af.o.num (j:=43) rfl;have BT:=h_ (Bx DK w5 rs) (by have:=An.o.box (i:=0) rfl;rwa [Ab.o.1] at this);have Dm:=BT.o.2.1 42 _ Fa;have y0:=BT.o.2.1 0 _ r0;have Fd:=BT.o.2.1 43 _ Fb;have q0:=(An.o.box (i:=1) rfl).2.1 0 _ (by rw [Ab.o.2.2.1];rfl);have qf:=(An.o.box (i:=1) rfl).2.2;clear Fa r0 Fb BT;go_upto_if 89 with fail;go_cut [] (fun wx=>∃ (Y':NP) (C':Nat->VL) (QA':OA) (qn' qc':Nat),Hid (Fs d X w (⟨w5,fun _=>9000000,ae_,noOw⟩ :: LM w x q 1600) Y' C' wx)/\Hid (XT k (3000+16000000*m) us Y' wx)/\Hid (SlT wx Y' (m+1) folT QA' qn' qc')/\Hid (VTs wx Y' 8000000 ae_ rs)/\Hid (C' w5=rs/\XC k us (C' x)/\C' q=[.slice QA' qn' qc']/\(C' x)[15]?=some (.slice none 0 0)/\(C' x)[16]?=some (i_ (wrap64 (nx+1)))))
  case first =>
   by_cases hst:tq=2
   case neg =>
    go_wp2_with fail;go_meet;exact ⟨Y6,Bo,QA,qn,qc,An,By,q_ (slt_n B2.o (by have:=B2.o.le;omega)),Af,Ab⟩
   subst hst;go_wp2_with fail;refine (Train20_t Y6 m QA qn qc FO FM DK B2.o o_ An.o.lt).mono ?_;rintro e Gb ⟨⟨PA,pn,pc,rfl,hP⟩,B9⟩;have Do:=q_ (An.o.call B9);have DE:=q_ (By.o.go (Up.of_below B9));have Ch:=q_ (Af.o.go (Up.of_below B9) (l_));clear B9 Dm y0 Fd q0 qf;obtain ⟨w0,A1,A0,f⟩:=Do.o;have q0:=f.cell (i:=1) rfl (j:=0) (by rw [Ab.o.2.2.1];rfl);have qf:=f.fz (i:=1) rfl;obtain ⟨Fk,Bp,CG,EL,Dj,CU,EJ,E3⟩:=f.set1 (i:=1) (j:=0) rfl rfl rfl (v:=.slice PA pn pc) ((hP.o.up (Kp.refl _ _) (show m+1<=100 by omega)).vt);have C1:=h_ (Fs d X w (⟨w5,fun _=>9000000,ae_,noOw⟩ :: LM w x q 1600) Y6 Bp Fk) (⟨w0,A1,A0,EL⟩);have Cm:=q_ (DE.o.go Dj);have Cd:=q_ (hP.o.go Dj (l_));have Bf:=q_ (Ch.o.go Dj (l_));have Dn:=h_ (Bp w5=rs/\XC k us (Bp x)/\Bp q=[.slice PA pn pc]/\(Bp x)[15]?=some (.slice none 0 0)/\(Bp x)[16]?=some (i_ (wrap64 (nx+1)))) (⟨by rw [CU _ o_];exact Ab.o.1,by rw [CU _ o_];exact Ab.o.2.1,by rw [EJ,Ab.o.2.2.1];rfl,by rw [CU _ o_];exact Ab.o.2.2.2.1,by rw [CU _ o_];exact Ab.o.2.2.2.2⟩);rw [CG] at C1 Cm Cd Bf;clear f EL Dj CU EJ E3 A1 A0 hP CG;go_wp2_with fail;go_meet;exact ⟨Y6,Bp,PA,pn,pc,C1,Cm,Cd,Bf,Dn⟩
  case rest =>
  rename World=>w13
  obtain ⟨EF,FT,PA,pn,pc,Ao,B4,Dx,Ci,A6⟩:=hcut;clear Dm y0 Fd q0 qf An By B2 Af Ab;have x0:=(Ao.o.box (i:=2) rfl).2.1 0 _ A6.o.2.1.c0;have x1:=(Ao.o.box (i:=2) rfl).2.1 1 _ A6.o.2.1.c1;have x2:=(Ao.o.box (i:=2) rfl).2.1 2 _ A6.o.2.1.c2;have RS:=q_ (A6.o.2.1.range (Ao.o.box (i:=2) rfl));have IU:=h_ ((prog.info? 40).map (·.size)=some us.length) (by rw [A6.o.2.1.len];exact cn_);have BT:=h_ (Bx w13 w5 rs) (by have:=Ao.o.box (i:=0) rfl;rwa [A6.o.1] at this);go_wp2_with (first | (with_reducible refine ac_ rfl 65 (.tmp 8) rfl _ underlying65 rfl v_ BT.o.whole IR.o ?_) | (with_reducible refine ac_ rfl 40 (.tmp 99) rfl _ underlying40 rfl v_ RS.o IU.o ?_) | fail);refine (Commit_t EF 2048 k.CA k.cn k.cc k.cv k.cs k.l (3000+16000000*m) 8000000 us rs w13 B4.o.co B4.o.li d_ B4.o.us o_ Ci.o d_ Ao.o.lt).mono ?_;rintro e Fc ⟨⟨CX,FX,rfl,BH⟩,Ba⟩;have Dp:=q_ (Ao.o.call Ba);have DF:=q_ (B4.o.go (Up.of_below Ba));have Dy:=q_ (Dx.o.go (Up.of_below Ba) (l_));have Aj:=q_ BH;have Fj:=h_ ((prog.info? 40).map (·.size)=some CX.length) (by rw [BH.1];exact cn_);obtain ⟨w0,A1,A0,f⟩:=Dp.o;have TH:=h_ (Fc.there x 5 CX.length) (f.there (i:=2) rfl (by rw [Aj.o.1];decide));obtain ⟨WV,CV,CJ,CE,BJ,CW,B7,E6⟩:=f.part1 (i:=2) rfl 5 (us:=comT) (N:=(3000+16000000*m+2*8000000)) rfl d_ Aj.o (hK15 o_);have Dw:=q_ (show Md1 d X w w x q k (m+1) (Fc.setCells x 5 CX) from by
   rw [←CJ]
   exact ⟨EF,CV,CX,PA,pn,pc,wrap64 (nx+1),⟨w0,A1,A0,CE.tail⟩,by rw [B7];exact A6.o.2.1.put Aj.o.1,((DF.o.with Aj.o).go BJ).more o_,by rw [CW _ o_];exact A6.o.2.2.1,Dy.o.go BJ (l_),by rw [B7,eg_ (by rw [A6.o.2.1.lx];decide) (.inr (by rw [Aj.o.1];decide))];exact A6.o.2.2.2.1,by rw [B7,eg_ (by rw [A6.o.2.1.lx];decide) (.inr (by rw [Aj.o.1];decide))];exact A6.o.2.2.2.2⟩)
  clear f CJ CE BJ CW B7 E6 A1 A0 Ba BH x0 x1 x2 RS BT;go_wp2_with (first | (with_reducible refine ab_ rfl 40 (.tmp 105) (.tmp 103) rfl CX w_ v_ TH.o Fj.o Aj.o.one ?_) | fail);go_roundw
  case rel=>exact ⟨m+1,o_,by go_num,Dw⟩
  case measure=>simp [intOf];omega
 case rest =>
 rename World=>w20
 obtain ⟨m,G4,hM⟩:=hcut;clear El;obtain ⟨Y,C,us,QA,qn,qc,nx,AE,AW,AF,hq,BS,AD,B8⟩:=hM.o;obtain ⟨en,u4⟩:=AF.us.tru (j:=4) rfl;obtain ⟨E5,u1⟩:=AF.us.num (j:=1) rfl;have y9:=(AE.box (i:=1) rfl).2.1 9 _ (AW.cu 4 _ u4);have Ae:=q_ AE;have A5:=q_ AW;have AC:=q_ AF;have HQ:=q_ hq;have Cf:=q_ BS;have AH:=q_ AD;have Az:=q_ B8;have U1:=q_ u1;clear AE AW AF hq BS AD B8 u4 u1 hM;cases en
 case true =>
  have HE:=q_ (scene_end (i:=1) (j:=2) Ae.o rfl rfl A5.o AC.o o_ AH.o Az.o d_ d_ ED.o (l_) EX);have BX:=q_ (Ae.o.box (i:=1) rfl);have IX:=h_ ((prog.info? 43).map (·.size)=some (C x).length) (by rw [A5.o.lx];exact isz_43);have TH:=h_ (World.there _ w 0 (C x).length) ((Ae.o.box (i:=2) rfl).there (by rw [Ae.o.len (i:=2) rfl,A5.o.lx];decide));go_wp2_with (first | (with_reducible refine ac_ rfl 43 (.tmp 3) rfl _ underlying43 rfl v_ BX.o.whole IX.o ?_) | (with_reducible refine ab_ rfl 43 (.tmp 2) (.tmp 109) rfl (C x) w_ v_ TH.o IX.o HE.o.2.1 ?_) | fail);refine retC results9 (by rfl) underlying43 rfl IX.o HE.o.1.whole rfl ?_;exact HE.o.2.2
 case false =>
 have D5:=h_ (∀ (w':World) (Y':NP),Fs d X w (LM w x q 1600) Y' C w'->(w'.cell? (a_ x)=some (.slice k.CA k.cn k.cc)/\w'.cell? (f_ x 1)=some (i_ k.cv)/\w'.cell? (f_ x 2)=some (i_ k.cs)/\w'.cell? (f_ x 6)=some (i_ E5)/\w'.cell? (a_ q)=some (.slice QA qn qc))) (fun w' Y' hf=>⟨(hf.box (i:=1) rfl).2.1 0 _ A5.o.c0,(hf.box (i:=1) rfl).2.1 1 _ A5.o.c1,(hf.box (i:=1) rfl).2.1 2 _ A5.o.c2,(hf.box (i:=1) rfl).2.1 6 _ (A5.o.cu 1 _ U1.o),(hf.box (i:=0) rfl).2.1 0 _ (by rw [HQ.o];rfl)⟩);have AN:=q_ (Ae.o.call (Below.drew (b_)));have Eb:=q_ AN.o.dice;have Cr:=q_ (AC.o.go (Up.of_below (Below.drew (b_))));have Et:=q_ (Cf.o.go (Up.of_below (Below.drew (b_))) (l_));go_upto_region 19 with fail;refine ar_ (S:=fun w':World=>(w'.cell? (a_ x)=some (.slice k.CA k.cn k.cc)/\w'.cell? (f_ x 1)=some (i_ k.cv)/\w'.cell? (f_ x 2)=some (i_ k.cs)/\w'.cell? (f_ x 6)=some (i_ E5)/\w'.cell? (a_ q)=some (.slice QA qn qc))) rfl (D5.o _ _ AN.o) (fun hHeld=>?_);go_simp;refine aa_ 0 110 ?_;refine aa_ 1 111 ?_;refine aa_ 2 112 ?_;refine aa_ 3 113 ?_;refine aa_ 4 114 ?_;refine aa_ 5 115 ?_;refine aa_ 6 116 ?_;refine ba_ 7 k_ rfl (fun K hK=>?_);go_simp;go_at_call 26;refine (bo_ d 5 w20.drew Eb.o d_ d_).mono ?_;rintro e FQ ⟨r5,G6,rfl,CO,-⟩;have G9:IntKind.i64.wrap (1+(r5:Int))=1+(r5:Int):=by rw [IntKind.wrap_i64];omega
 obtain ⟨CM,BF⟩:=AN.o.pick AB.o CO;have B0:=q_ CM;have B5:=q_ (Cr.o.go BF);have Ce:=q_ (Et.o.go BF (l_));clear CM CO BF;refine hK.out _ _ (D5.o _ _ B0.o) (fun hHeld=>?_);refine aa_ 8 118 ?_;refine ba_ 9 k_ rfl (fun K hK=>?_);go_simp;go_at_call 45;refine (Chain_t Y m k.CA k.cn k.cc k.cv k.cs k.l QA qn qc E5 _ FQ B5.o.li (by have:=B5.o.co.le;omega) Ce.o o_ B0.o.lt).mono ?_;rintro e FR ⟨⟨SA,sn,sc,rfl,DP⟩,BD⟩;have Bu:=q_ (B0.o.call BD);have Cn:=q_ (B5.o.go (Up.of_below BD));clear BD;refine hK.out _ _ (D5.o _ _ Bu.o) (fun hHeld=>?_);refine aa_ 10 10 ?_;refine wpAnyH_done k_ ?_ _;have Em:=h_ (Md2 d X w w x q k (3000+16000000*m) 1600 0 FR Y C us none 0 nx) (⟨Bu.o,A5.o,Cn.o,AH.o,Az.o⟩);have G7:=DP.o.le;clear D5 AN Eb Cr Et Ae A5 AC HQ Cf AH Az U1 B0 B5 Ce Bu Cn hHeld y9;go_upto_block 2 with fail;go_cut [] (fun wx=>∃ (n:Nat) (Y:NP) (C:Nat->VL) (us:VL) (A:OA) (c:Nat) (nx:Int),n<=16/\Hid (Md2 d X w w x q k (3000+16000000*m) 1600 n wx Y C us A c nx))
 case first =>
  go_wp2_with fail;go_loopw [122] (fun i wr=>∃ (kk n:Nat) (Y:NP) (C:Nat->VL) (us:VL) (A:OA) (c:Nat) (nx:Int),kk<=sn/\n<=kk/\i=i_ kk/\Hid (Md2 d X w w x q k (3000+16000000*m) 1600 n wr Y C us A c nx)/\Hid (SlT wr Y 16 [.num] SA sn sc)) (fun i _=>sn - (intOf i).toNat)
  case atStart=>exact ⟨0,0,Y,C,us,none,0,nx,o_,o_,rfl,Em,DP⟩
  obtain ⟨kk,n,Y,C,us,A,c,nx,G0,G1,rfl,hM,DR⟩:=hrel;by_cases hkn:kk<sn
  case neg =>
   have Fo:¬(kk:Int)<(sn:Int):=by omega
   go_wp2_with fail;go_meet;exact ⟨n,Y,C,us,A,c,nx,o_,hM⟩
  case pos =>
  have Fo:(kk:Int)<(sn:Int):=by omega
  obtain ⟨AE,AW,AF,AD,B8⟩:=hM.o;obtain ⟨g,o,rfl,hg,xv,hx⟩:=DR.o.num_at hkn;have e0:=hx wr (b_);have A5:=q_ AW;have AH:=q_ AD;have Az:=q_ B8;have E1:x<wr:=(AE.box (i:=1) rfl).1;have Bt:=q_ (AE.call (Below.drew (b_)));have DD:=q_ (AF.go (Up.of_below (Y:=Y) (Below.drew (b_))));have B3:=q_ (DR.o.go (Up.of_below (Y:=Y) (Below.drew (b_))) (l_));have A9:=h_ (∀ w':World,Bx w' x (C x)->(w'.cell? (a_ x)=some (.slice k.CA k.cn k.cc)/\w'.cell? (f_ x 1)=some (i_ k.cv)/\w'.cell? (f_ x 2)=some (i_ k.cs)/\w'.cell? (f_ x 16)=some (i_ nx))) (fun w' hb=>sx_of hb A5.o Az.o);clear hx AE AW AF AD B8 hM DR;go_upto_region 23 with fail;go_cut [13] (fun tp wx=>∃ (tb:Nat) (ts:VL) (Y2:NP) (C2:Nat->VL),tp=.pointer (some (a_ tb))/\x<tb/\Hid (Fs d X w (⟨tb,fun _=>1600,ae_,noOw⟩ :: (LM w x q 1600)) Y2 C2 wx)/\Hid (C2 tb=ts/\C2 x=C x)/\Hid (VTs wx Y2 1600 ae_ ts)/\Hid (XT k (3000+16000000*m) us Y2 wx)/\Hid (SlT wx Y2 16 [.num] (some (f_ g o)) sn sc))
  case first =>
   clear e0;refine ar_ (S:=fun w':World=>(w'.cell? (a_ x)=some (.slice k.CA k.cn k.cc)/\w'.cell? (f_ x 1)=some (i_ k.cv)/\w'.cell? (f_ x 2)=some (i_ k.cs)/\w'.cell? (f_ x 16)=some (i_ nx))) rfl (A9.o _ (Bt.o.box (i:=1) rfl)) (fun hHeld=>?_);go_simp;refine aa_ 0 127 ?_;refine aa_ 1 128 ?_;refine aa_ 2 129 ?_;refine aa_ 3 130 ?_;refine aa_ 4 131 ?_;refine aa_ 5 132 ?_;refine wpAnyH_ready (rs:=[6,12]) k_ t_ (AllReadyH.cons rfl (fun K hK=>?_) (AllReadyH.cons rfl (fun K hK=>?_) AllReadyH.nil))
   ·go_simp;go_at_call 26;refine (bo_ d 3 wr.drew Bt.o.dice d_ d_).mono ?_;rintro e AG ⟨r6,FB,rfl,F4,-⟩;obtain ⟨EY,DW⟩:=Bt.o.pick AB.o F4;have Ap:=q_ EY;have B6:=q_ (DD.o.go DW);have Ck:=q_ (B3.o.go DW (l_));have FF:x<AG:=(Ap.o.box (i:=1) rfl).1;clear EY F4 DW;refine hK.out _ _ (A9.o _ (by have h:=Ap.o.box (i:=1) rfl;exact h)) (fun hHeld=>?_);refine aa_ 7 134 ?_;refine wpAnyH_ready (rs:=[8,12]) k_ t_ (AllReadyH.cons rfl (fun K hK=>?_) (AllReadyH.cons rfl (fun K hK=>?_) AllReadyH.nil))
    ·go_simp;go_at_call 41;refine (Begin_t Y k.CA k.cn k.cc k.cv k.cs k.l 2048 xv nx _ AG B6.o.co B6.o.li d_ Ap.o.lt).mono ?_;rintro e Aw ⟨⟨ts,DM,rfl,Ar,_⟩,Db⟩;have Ac:=q_ (Ap.o.call Db);have AR:=q_ (B6.o.go (Up.of_below Db));have Bv:=q_ (Ck.o.go (Up.of_below (Y:=Y) Db) (l_));have Cv:=h_ (VTs Aw Y 1600 ae_ ts) (Ar.up (Kp.refl _ _) d_);have DZ:x<Aw:=(Ac.o.box (i:=1) rfl).1;have IT:=h_ ((prog.info? 65).map (·.size)=some ts.length) (by rw [Ar.1];exact ao_);clear Db Ar;refine hK.out _ _ (A9.o _ (by have h:=Ac.o.box (i:=1) rfl;exact h)) (fun hHeld=>?_);refine aa_ 9 126 ?_;refine aa_ 10 136 ?_;refine aa_ 11 137 ?_;refine ba_ 12 k_ rfl (fun K hK=>?_);go_simp;obtain ⟨w0,A1,A0,f⟩:=Ac.o;obtain ⟨Wb,Yb,Cb,Bm,CR,ub,fb,cb,Bl⟩:=f.add1 1600 ae_ zl1 65 (az_ _ ae_);have Aq:=h_ (Fs d X w (⟨Aw,fun _=>1600,ae_,noOw⟩ :: (LM w x q 1600)) Yb Cb Wb) (⟨w0,A1,A0,fb⟩);have AX:=q_ (AR.o.go ub);have Bh:=q_ (Bv.o.go ub (l_));have AL:=h_ (Cb x=C x) (Bl _ (by have:(Aw:Nat)=Aw:=rfl;have hq:=((Ac.o.box (i:=1) rfl).1:x<Aw);omega));have AQ:=q_ (Cv.o.go ub (l_));have F7:x<Aw:=(Ac.o.box (i:=1) rfl).1;clear f fb cb Bl CR ub A1 A0;rw [Bm] at Aq AX Bh AQ;clear Bm;refine hK.out _ _ (A9.o _ (by have h:=Aq.o.box (i:=2) rfl;rw [AL.o] at h;exact h)) (fun hHeld=>?_);refine bb_ 13 fun K hK=>?_
     rw [if_pos (by rfl)];refine wp_store_mid 65 (.tmp 13) (.tmp 136) rfl Aw 0 ts.toArray v_ v_ (by rw [List.size_toArray];exact (Aq.o.box (i:=0) rfl).there (by rw [Aq.o.len (i:=0) rfl];simp only [List.size_toArray];rw [AQ.o.1];decide)) (by rw [List.size_toArray];exact IT.o) (by simpa using AQ.o.one) ?_;obtain ⟨w0,A1,A0,f⟩:=Aq.o;obtain ⟨Wc,Cc,Bn,fc,uc,kc,ec,zc⟩:=f.sets1 (i:=0) rfl AQ.o;have AO:=h_ (Fs d X w (⟨Aw,fun _=>1600,ae_,noOw⟩ :: (LM w x q 1600)) Yb Cc Wc) (⟨w0,A1,A0,fc⟩);have Bk:=q_ (AX.o.go uc);have Bi:=q_ (Bh.o.go uc (l_));have Am:=q_ (AQ.o.go uc (l_));have Bd:=h_ (Cc Aw=ts/\Cc x=C x) (⟨ec,(kc _ o_).trans AL.o⟩);have AA:=q_ Bd.o.2;rw [Bn] at AO Bk Bi Am;clear f fc uc kc ec zc A1 A0 Bn;refine hK.out _ _ (A9.o _ (by have h:=AO.o.box (i:=2) rfl;rw [AA.o] at h;exact h)) (fun hHeld=>?_);refine aa_ 14 14 ?_;refine wpAnyH_done k_ ?_ _;go_wp2_with fail;go_meet;exact ⟨Aw,ts,Yb,Cc,rfl,o_,AO,Bd,Am,Bk,Bi⟩
    go_simp;obtain ⟨w0,A1,A0,f⟩:=Ap.o;obtain ⟨Wb,Yb,Cb,Bm,CR,ub,fb,cb,Bl⟩:=f.add1 1600 ae_ zl1 65 (az_ _ ae_);have Aq:=h_ (Fs d X w (⟨AG,fun _=>1600,ae_,noOw⟩ :: (LM w x q 1600)) Yb Cb Wb) (⟨w0,A1,A0,fb⟩);have AX:=q_ (B6.o.go ub);have Bh:=q_ (Ck.o.go ub (l_));have AL:=h_ (Cb x=C x) (Bl _ (by have:(AG:Nat)=AG:=rfl;have hq:=((Ap.o.box (i:=1) rfl).1:x<AG);omega));have F7:x<AG:=(Ap.o.box (i:=1) rfl).1;clear f fb cb Bl CR ub A1 A0;rw [Bm] at Aq AX Bh;clear Bm;refine hK.out _ _ (A9.o _ (by have h:=Aq.o.box (i:=2) rfl;rw [AL.o] at h;exact h)) (fun hHeld=>?_);refine bb_ 8 fun K hK=>?_
    go_simp;go_at_call 41;refine (Begin_t Yb k.CA k.cn k.cc k.cv k.cs k.l 2048 xv nx _ (AG.alloc (.cells zl1.toArray 65)) AX.o.co AX.o.li d_ Aq.o.lt).mono ?_;rintro e D0 ⟨⟨ts,DM,rfl,Ar,_⟩,Av⟩;have A7:=q_ (Aq.o.call Av);have BA:=q_ (AX.o.go (Up.of_below Av));have Bw:=q_ (Bh.o.go (Up.of_below (Y:=Yb) Av) (l_));have A4:=h_ (VTs D0 Yb 1600 ae_ ts) (Ar.up (Kp.refl _ _) d_);have E0:x<D0:=(A7.o.box (i:=2) rfl).1;have IT:=h_ ((prog.info? 65).map (·.size)=some ts.length) (by rw [Ar.1];exact ao_);clear Av Ar;refine hK.out _ _ (A9.o _ (by have h:=A7.o.box (i:=2) rfl;rw [AL.o] at h;exact h)) (fun hHeld=>?_);refine aa_ 9 126 ?_;refine aa_ 10 136 ?_;refine aa_ 11 137 ?_;refine ba_ 13 k_ rfl (fun K hK=>?_);rw [if_pos (by rfl)];refine wp_store_mid 65 (.tmp 13) (.tmp 136) rfl AG 0 ts.toArray v_ v_ (by rw [List.size_toArray];exact (A7.o.box (i:=0) rfl).there (by rw [A7.o.len (i:=0) rfl];simp only [List.size_toArray];rw [A4.o.1];decide)) (by rw [List.size_toArray];exact IT.o) (by simpa using A4.o.one) ?_;obtain ⟨w0,A1,A0,f⟩:=A7.o;obtain ⟨Wc,Cc,Bn,fc,uc,kc,ec,zc⟩:=f.sets1 (i:=0) rfl A4.o;have AO:=h_ (Fs d X w (⟨AG,fun _=>1600,ae_,noOw⟩ :: (LM w x q 1600)) Yb Cc Wc) (⟨w0,A1,A0,fc⟩);have Bk:=q_ (BA.o.go uc);have Bi:=q_ (Bw.o.go uc (l_));have Am:=q_ (A4.o.go uc (l_));have Bd:=h_ (Cc AG=ts/\Cc x=C x) (⟨ec,(kc _ o_).trans AL.o⟩);have AA:=q_ Bd.o.2;rw [Bn] at AO Bk Bi Am;clear f fc uc kc ec zc A1 A0 Bn;refine hK.out _ _ (A9.o _ (by have h:=AO.o.box (i:=2) rfl;rw [AA.o] at h;exact h)) (fun hHeld=>?_);refine aa_ 14 14 ?_;refine wpAnyH_done k_ ?_ _;go_wp2_with fail;go_meet;exact ⟨AG,ts,Yb,Cc,rfl,o_,AO,Bd,Am,Bk,Bi⟩
   go_simp;obtain ⟨w0,A1,A0,f⟩:=Bt.o;obtain ⟨Wb,Yb,Cb,Bm,CR,ub,fb,cb,Bl⟩:=f.add1 1600 ae_ zl1 65 (az_ _ ae_);have Aq:=h_ (Fs d X w (⟨wr.drew,fun _=>1600,ae_,noOw⟩ :: (LM w x q 1600)) Yb Cb Wb) (⟨w0,A1,A0,fb⟩);have AX:=q_ (DD.o.go ub);have Bh:=q_ (B3.o.go ub (l_));have AL:=h_ (Cb x=C x) (Bl _ (by have:(wr.drew:Nat)=wr.drew:=rfl;have hq:=((Bt.o.box (i:=1) rfl).1:x<wr.drew);omega));have F7:x<wr.drew:=(Bt.o.box (i:=1) rfl).1;clear f fb cb Bl CR ub A1 A0;rw [Bm] at Aq AX Bh;clear Bm;refine hK.out _ _ (A9.o _ (by have h:=Aq.o.box (i:=2) rfl;rw [AL.o] at h;exact h)) (fun hHeld=>?_);refine bb_ 6 fun K hK=>?_
   go_simp;go_at_call 26;refine (bo_ d 3 (wr.drew.alloc (.cells zl1.toArray 65)) Aq.o.dice d_ d_).mono ?_;rintro e Aw ⟨r6,FB,rfl,F5,-⟩;obtain ⟨EZ,BU⟩:=Aq.o.pick AB.o F5;have Ac:=q_ EZ;have AR:=q_ (AX.o.go BU);have Bv:=q_ (Bh.o.go BU (l_));have DZ:x<Aw:=(Ac.o.box (i:=2) rfl).1;clear EZ F5 BU;refine hK.out _ _ (A9.o _ (by have h:=Ac.o.box (i:=2) rfl;rw [AL.o] at h;exact h)) (fun hHeld=>?_);refine aa_ 7 134 ?_;refine ba_ 8 k_ rfl (fun K hK=>?_);go_simp;go_at_call 41;refine (Begin_t Yb k.CA k.cn k.cc k.cv k.cs k.l 2048 xv nx _ Aw AR.o.co AR.o.li d_ Ac.o.lt).mono ?_;rintro e D0 ⟨⟨ts,DM,rfl,Ar,_⟩,Av⟩;have A7:=q_ (Ac.o.call Av);have BA:=q_ (AR.o.go (Up.of_below Av));have Bw:=q_ (Bv.o.go (Up.of_below (Y:=Yb) Av) (l_));have A4:=h_ (VTs D0 Yb 1600 ae_ ts) (Ar.up (Kp.refl _ _) d_);have E0:x<D0:=(A7.o.box (i:=2) rfl).1;have IT:=h_ ((prog.info? 65).map (·.size)=some ts.length) (by rw [Ar.1];exact ao_);clear Av Ar;refine hK.out _ _ (A9.o _ (by have h:=A7.o.box (i:=2) rfl;rw [AL.o] at h;exact h)) (fun hHeld=>?_);refine aa_ 9 126 ?_;refine aa_ 10 136 ?_;refine aa_ 11 137 ?_;refine ba_ 13 k_ rfl (fun K hK=>?_);rw [if_pos (by rfl)];refine wp_store_mid 65 (.tmp 13) (.tmp 136) rfl wr.drew 0 ts.toArray v_ v_ (by rw [List.size_toArray];exact (A7.o.box (i:=0) rfl).there (by rw [A7.o.len (i:=0) rfl];simp only [List.size_toArray];rw [A4.o.1];decide)) (by rw [List.size_toArray];exact IT.o) (by simpa using A4.o.one) ?_;obtain ⟨w0,A1,A0,f⟩:=A7.o;obtain ⟨Wc,Cc,Bn,fc,uc,kc,ec,zc⟩:=f.sets1 (i:=0) rfl A4.o;have AO:=h_ (Fs d X w (⟨wr.drew,fun _=>1600,ae_,noOw⟩ :: (LM w x q 1600)) Yb Cc Wc) (⟨w0,A1,A0,fc⟩);have Bk:=q_ (BA.o.go uc);have Bi:=q_ (Bw.o.go uc (l_));have Am:=q_ (A4.o.go uc (l_));have Bd:=h_ (Cc wr.drew=ts/\Cc x=C x) (⟨ec,(kc _ o_).trans AL.o⟩);have AA:=q_ Bd.o.2;rw [Bn] at AO Bk Bi Am;clear f fc uc kc ec zc A1 A0 Bn;refine hK.out _ _ (A9.o _ (by have h:=AO.o.box (i:=2) rfl;rw [AA.o] at h;exact h)) (fun hHeld=>?_);refine aa_ 14 14 ?_;refine wpAnyH_done k_ ?_ _;go_wp2_with fail;go_meet;exact ⟨wr.drew,ts,Yb,Cc,rfl,o_,AO,Bd,Am,Bk,Bi⟩
  case rest =>
  rename World=>w30
  obtain ⟨tb,ts,Y2,C2,rfl,FG,C3,Bq,Bj,Co,Cj⟩:=hcut;clear Bt DD B3 A9 e0 E1;have AT:=h_ (XC k us (C2 x)/\(C2 x)[15]?=some (.slice A n c)/\(C2 x)[16]?=some (i_ nx)) (by rw [Bq.o.2];exact ⟨A5.o,AH.o,Az.o⟩);obtain ⟨w0,A1,A0,f⟩:=C3.o;have D1:=f.cell (i:=2) rfl AT.o.2.2;have xf:=f.fz (i:=2) rfl;obtain ⟨Au,Bc,CH,EM,Dk,F9,Da,FS⟩:=f.set1 (i:=2) (j:=16) rfl rfl rfl (v:=i_ (wrap64 (nx+1))) (.num _);have Dq:=h_ (Fs d X w (⟨tb,fun _=>1600,ae_,noOw⟩ :: (LM w x q 1600)) Y2 Bc Au) (⟨w0,A1,A0,EM⟩);have DG:=q_ (Co.o.go Dk);have DB:=q_ (Cj.o.go Dk (l_));have As:=q_ (Bj.o.go Dk (l_));have Ah:=h_ (XC k us (Bc x)/\(Bc x)[15]?=some (.slice A n c)/\(Bc x)[16]?=some (i_ (wrap64 (nx+1)))/\Bc tb=ts) (⟨by rw [Da];exact AT.o.1.set o_,by rw [Da,gs_,if_neg d_];exact AT.o.2.1,by rw [Da,gs_,if_pos rfl,if_pos (e_ AT.o.2.2).1],(F9 _ o_).trans Bq.o.1⟩);clear f EM Dk F9 Da FS A1 A0 C3 Co Cj Bj AT Bq A5 AH Az;go_upto_region 25 with fail;rw [←CH];clear CH D1 xf;obtain ⟨w0,A1,A0,f⟩:=Dq.o;have x15:=f.cell (i:=2) rfl Ah.o.2.1;have BT:=h_ (Bx Au tb ts) (by have:=f.box (i:=0) rfl;rwa [Ah.o.2.2.2] at this);have IT:=h_ ((prog.info? 65).map (·.size)=some ts.length) (by rw [As.o.1];exact ao_);have Dg:Below Au Au (Au.alloc (.cells ts.toArray 65)):=(b_).alloc (l_) _;obtain ⟨A2,n2,c2,_,h2,Ft,hO,hY⟩:=f.own (i:=2) (j:=15) (e:=ae_) rfl rfl (show owL 15=some 65 from rfl);rw [Ah.o.2.1] at h2;injection h2 with h2;injection h2 with q1 q2 q3;subst q1 q2 q3;have Ff:=h_ (SlT (Au.alloc (.cells ts.toArray 65)) (Wi Y2 (Value.slice A n c).ownBlock) 1600 ae_ (some (a_ Au)) 1 1) (SlT.lit1 (e:=ae_) (As.o.less (fun q _ hq=>by
   rcases hq with h | h
   ·exact h
   ·exact hY _ h)) _ (fun h=>by
   rcases h with h | h
   ·have:=f.lt _ h;omega
   have:=f.lt _ (hY _ h);omega) o_)
  have f7:=f.call Dg;have D3:=h_ (Fs d X w (⟨tb,fun _=>1600,ae_,noOw⟩ :: (LM w x q 1600)) Y2 Bc (Au.alloc (.cells ts.toArray 65))) (⟨w0,A1,A0,f7⟩);have Fg:=h_ (OwT (Au.alloc (.cells ts.toArray 65)) 0 65 ae_ Y2 1600 A n c) (OwT.stay hO (ce_ Dg none) (fun _ h=>by cases h));have Du:=q_ f7.lt;have E7:=q_ (fun w' (hg:(Au.alloc (.cells ts.toArray 65)).grownBy w' (Value.slice A n c).ownBlock)=>f7.cv_ (i:=2) rfl (j:=15) rfl (show owL 15=some 65 from rfl) Ah.o.2.1 hg);have EA:=h_ (Up Au Y2 (Au.alloc (.cells ts.toArray 65)) Y2) (Up.of_below Dg);have Ga:x<(Au.alloc (.cells ts.toArray 65)).heap.size:=f7.blt (i:=2) rfl;have Fi:=h_ (ts.length=(zl1:VL).length) As.o.1;have Fq:ts.length=48:=As.o.1;clear f7 f A1 A0 hO hY Dg Ft;go_upto_region 26 with (first
   | (with_reducible refine ac_ rfl 65 (.tmp 13) rfl _ underlying65 rfl v_ BT.o.whole IT.o ?_)
   | (at_builtin;go_loud (rw [fold_sets _ ts Fi.o]);go_loud (refine aq_ rfl _ _ 41 rfl 0 65 i0 _ 480 ae_ Y2 1600 underlying41 Fn Fw (show i0.size=ae_.length from F2) Fz (by rfl) d_ A n c v_ Fg.o (some (a_ Au)) 1 1 v_ Ff.o Du.o m_ o_ (Nat.zero_le _) ?_);intro A8 c8 w8 o8 g8 l8;have O8:=q_ o8;have G8:=q_ g8;have L8:=q_ l8;clear x15;have FV:=(E7.o w8 g8).2.1 15 _ Ah.o.2.1;have FY:=(E7.o w8 g8).2.2;clear o8 g8 l8)
   | fail)
  obtain ⟨w0,A1,A0,f⟩:=D3.o;obtain ⟨Y9,f9,u9⟩:=f.append (i:=2) (j:=15) rfl rfl (show owL 15=some 65 from rfl) Ah.o.2.1 O8.o (show n+1<=1600 by omega) G8.o L8.o;have Fe:=q_ (show Md2 d X w w x q k (3000+16000000*m) 1600 (n+1) (w8.setCell (f_ x 15) (.slice A8 (n+1) c8)) Y9 (upd Bc x ((Bc x).set 15 (.slice A8 (n+1) c8))) us A8 c8 (wrap64 (nx+1)) from
   ⟨⟨w0,A1,A0,f9.tail⟩,by rw [upd_same];exact Ah.o.1.set o_,(DG.o.go EA.o).go u9,by rw [upd_same,gs_,if_pos rfl,if_pos (e_ Ah.o.2.1).1],by rw [upd_same,gs_,if_neg d_];exact Ah.o.2.2.1⟩)
  have Fh:=q_ ((DB.o.go EA.o (l_)).go u9 (l_));clear f f9 u9 A1 A0;go_wp2_with fail;go_roundw
  case rel=>exact ⟨kk+1,n+1,Y9,_,us,A8,c8,wrap64 (nx+1),o_,o_,by go_num,Fe,Fh⟩
  case measure=>simp [intOf];omega
 case rest =>
 rename World=>w40
 obtain ⟨n,Y,C,us,A,c,nx,BE,hM⟩:=hcut;have BY:=q_ hM.o.1.dice;clear Em DP;go_wp2_with fail;refine (bo_ d 40 w40 BY.o d_ d_).mono ?_;rintro e Gc ⟨q1,F2,rfl,CP,-⟩;have Ca:=q_ (hM.o.pick AB.o CP);clear CP BY hM;go_upto_block 4 with fail;go_cut [] (fun wx=>∃ (M:Nat) (Y:NP) (C:Nat->VL) (us:VL) (A:OA) (c:Nat) (nx:Int),M<=70000/\Hid (Md2 d X w w x q k (3000+16000000*m) M n wx Y C us A c nx))
 case first =>
  go_wp2_with fail;go_loopw [15] (fun i wr=>∃ (mm:Nat) (Y:NP) (C:Nat->VL) (us:VL) (A:OA) (c:Nat) (nx:Int),mm<=q1/\i=i_ ((q1:Int) - (mm:Int))/\Hid (Md2 d X w w x q k (3000+16000000*m) (1600*(mm+1)) n wr Y C us A c nx)) (fun i _=>(intOf i).toNat)
  case atStart=>exact ⟨0,Y,C,us,A,c,nx,o_,by simp,Ca⟩
  obtain ⟨mm,Y,C,us,A,c,nx,Fv,rfl,hM⟩:=hrel;by_cases hml:mm<q1
  case neg =>
   have hI:¬(0:Int)<(q1:Int) - (mm:Int):=by omega
   go_wp2_with fail;go_meet;exact ⟨1600*(mm+1),Y,C,us,A,c,nx,o_,hM⟩
  case pos =>
  have hI:(0:Int)<(q1:Int) - (mm:Int):=by omega
  have x15:=(hM.o.1.box (i:=1) rfl).2.1 15 _ hM.o.2.2.2.1;by_cases hn0:0<n
  case neg =>
   have DU:¬(0:Int)<(n:Int):=by omega
   go_wp2_with fail;go_meet;exact ⟨1600*(mm+1),Y,C,us,A,c,nx,o_,hM⟩
  case pos =>
  have DU:(0:Int)<(n:Int):=by omega
  have Ee:=q_ hM.o.1.dice;go_wp2_with fail;refine (bo_ d n wr Ee.o o_ o_).mono ?_;rintro e Ad ⟨kk,DT,rfl,CQ,-⟩;have A3:=q_ (hM.o.pick AB.o CQ);clear CQ Ee hM x15;obtain ⟨g,rfl,DS,CN,F1,vs,DX,EW⟩:=A3.o.el DT o_;obtain ⟨st,pc,sp,CK⟩:=DX.at_;have Fp:(kk:Int)<(n:Int):=by omega
  have DC:=q_ CN;have Eh:=q_ F1;have D8:=q_ DX;have E8:=q_ EW;have BL:=q_ CK
  have x15:=(A3.o.1.box (i:=1) rfl).2.1 15 _ A3.o.2.2.2.1;have Dm:Ad.cell? ⟨g,kk*48+42,none⟩=some (i_ st):=E8.o 42 _ BL.o.1;clear CN F1 DX EW CK
  go_upto_if 172 with fail;by_cases hst:st=0
  case neg =>
   go_wp2_with fail;go_roundw
   case rel=>exact ⟨mm+1,Y,C,us,_,c,nx,o_,by go_num,q_ (A3.o.more o_)⟩
   case measure=>simp [intOf];omega
  case pos =>
  subst hst;obtain ⟨HA,hn,hc,u0,hh⟩:=A3.o.2.2.1.us.slc (j:=0) (e:=objT) rfl;have U0:=q_ u0;have E1:x<Ad:=(A3.o.1.box (i:=1) rfl).1;have A9:=h_ (∀ (w':World) (M':Nat),Fs d X w (LM w x q M') Y C w'->(w'.cell? (a_ x)=some (.slice k.CA k.cn k.cc)/\w'.cell? (f_ x 1)=some (i_ k.cv)/\w'.cell? (f_ x 2)=some (i_ k.cs)/\w'.cell? (f_ x 4)=some (.slice k.DA k.dn k.dc)/\w'.cell? (f_ x 5)=some (.slice HA hn hc)/\w'.cell? (f_ x 15)=some (.slice (some (a_ g)) n c))) (fun w' M' hf=>⟨(hf.box (i:=1) rfl).2.1 0 _ A3.o.2.1.c0,(hf.box (i:=1) rfl).2.1 1 _ A3.o.2.1.c1,(hf.box (i:=1) rfl).2.1 2 _ A3.o.2.1.c2,(hf.box (i:=1) rfl).2.1 4 _ A3.o.2.1.c4,(hf.box (i:=1) rfl).2.1 5 _ (A3.o.2.1.cu 0 _ U0.o),(hf.box (i:=1) rfl).2.1 15 _ A3.o.2.2.2.1⟩);have Df:Below Ad Ad Ad.drew:=Below.drew (b_);have DJ:=h_ (Up Ad Y Ad.drew Y) (Up.of_below Df);have AN:=q_ (A3.o.1.call Df);have Cr:=q_ (A3.o.2.2.1.go DJ.o);have Ei:=q_ (hh.go DJ.o (l_));have EB:=q_ (D8.o.go DJ.o (l_));have Ew:=h_ (SlE Ad.drew Ad.drew Y (1600*(mm+1)) ae_ (some (a_ g)) n) (DC.o.kept (Kp.of_below (X:=fun _=>False) Df) (fun _ _ h=>h.elim) (fun _ _ h=>h));have D6:=h_ (∀ w',Below Ad Ad w'->w'.rangeAt g (kk*48) vs) (fun w' hb j v hv=>(belc hb DS).trans (E8.o j v hv));have EE:=h_ ((prog.info? 65).map (·.size)=some vs.length) (by rw [D8.o.1];exact ao_);clear u0 hh Df x15 Dm;go_upto_region 32 with fail;refine ar_ (S:=fun w':World=>(w'.cell? (a_ x)=some (.slice k.CA k.cn k.cc)/\w'.cell? (f_ x 1)=some (i_ k.cv)/\w'.cell? (f_ x 2)=some (i_ k.cs)/\w'.cell? (f_ x 4)=some (.slice k.DA k.dn k.dc)/\w'.cell? (f_ x 5)=some (.slice HA hn hc)/\w'.cell? (f_ x 15)=some (.slice (some (a_ g)) n c))) rfl (A9.o _ _ AN.o) (fun hHeld=>?_);go_simp;refine aa_ 0 174 ?_;refine aa_ 1 175 ?_;refine aa_ 2 176 ?_;refine aa_ 3 177 ?_;refine aa_ 4 178 ?_;refine aa_ 5 179 ?_;refine aa_ 6 180 ?_;refine aa_ 7 181 ?_;refine aa_ 8 182 ?_;refine aa_ 9 183 ?_;refine aa_ 10 184 ?_;refine aa_ 12 186 ?_;refine aa_ 13 187 ?_;refine aa_ 14 188 ?_;refine aa_ 15 189 ?_;refine aa_ 16 190 ?_;refine aa_ 17 191 ?_;refine wpAnyH_ready (rs:=[11,18]) k_ t_ (AllReadyH.cons rfl (fun K hK=>?_) (AllReadyH.cons rfl (fun K hK=>?_) AllReadyH.nil))
  ·skip
   rw [if_pos (by rfl)];refine wp_load_mid 65 (.tmp 184) rfl g (kk*48) v_ vs _ (D6.o _ (Below.drew (b_))) underlying65 rfl EE.o ?_;refine hK.out _ _ (A9.o _ _ AN.o) (fun hHeld=>?_);refine bb_ 18 fun K hK=>?_
   go_simp;go_at_call 47;refine (View_e Y (3000+16000000*m) HA hn hc (1600*(mm+1)) 16 (some (a_ g)) n c kk Ad.drew Ei.o Ew.o BE o_ o_ AN.o.lt).mono ?_;rintro e CY ⟨⟨VA,vn,vc,rfl,AV⟩,Aa⟩;have Al:=q_ (AN.o.call Aa);have Ag:=q_ (Cr.o.go (Up.of_below Aa));have BB:=q_ AV.o;have AS:=q_ (EB.o.go (Up.of_below Aa) (l_));have AU:Below Ad Ad CY:=(Below.drew (Below.refl Ad Ad)).trans Aa;have Ax:=q_ AU;clear Aa AV AU;refine hK.out _ _ (A9.o _ _ Al.o) (fun hHeld=>?_);refine bb_ 19 fun K hK=>?_
   go_simp;go_at_call 46;refine (Step_t Y ((3000+16000000*m)+2*(1600*(mm+1))*16) k.CA k.cn k.cc k.cv k.cs k.l k.DA k.dn k.dc (1600*(mm+1)) vs VA vn vc CY (Ag.o.co.up (Kp.refl _ _) o_) Ag.o.li o_ (Ag.o.dv.up (Kp.refl _ _) o_) AS.o o_ BB.o Al.o.lt 0 pc sp BL.o).mono ?_;rintro e CZ ⟨⟨zs,Fl,rfl,BI,_⟩,Ai⟩;have AM:=q_ (Al.o.call Ai);have Bz:=q_ (Ag.o.go (Up.of_below Ai));have BC:=q_ BI;have AI:=q_ (Ax.o.trans (Ai.mono Ax.o.size));have IZ:=h_ ((prog.info? 65).map (·.size)=some zs.length) (by rw [BI.1];exact ao_);clear Ai BI;refine hK.out _ _ (A9.o _ _ AM.o) (fun hHeld=>?_);refine aa_ 20 173 ?_;refine aa_ 21 194 ?_;refine aa_ 22 195 ?_;refine aa_ 23 196 ?_;refine ba_ 24 k_ rfl (fun K hK=>?_);rw [if_pos (by rfl)];refine wp_store_mid 65 (.tmp 196) (.tmp 194) rfl g (kk*48) zs.toArray v_ v_ (by rw [List.size_toArray];exact fun j hj=>⟨by rw [D6.o _ AI.o j _ (ge_ (by rw [D8.o.1,←BC.o.1];simpa using hj))];rfl,(belf AI.o DS).trans (Eh.o _)⟩) (by rw [List.size_toArray];exact IZ.o) (by simpa using BC.o.one) ?_;have AP:=h_ (Md2 d X w w x q k (3000+16000000*m) (1600*(mm+1+1)) n (CZ.setCells g (kk*48) zs) Y C us (some (a_ g)) c nx) ((show Md2 d X w w x q k (3000+16000000*m) (1600*(mm+1)) n CZ Y C us (some (a_ g)) c nx from ⟨AM.o,A3.o.2.1,Bz.o,A3.o.2.2.2.1,A3.o.2.2.2.2⟩).put o_ DT (BC.o.up (Kp.refl _ _) o_));refine hK.out _ _ (A9.o _ _ AP.o.1) (fun hHeld=>?_);try simp only [Act.put,sA,s0,s1]
   refine wpAnyH_done k_ ?_ _;go_wp2_with fail;go_roundw
   case rel=>exact ⟨mm+1,Y,C,us,_,c,nx,o_,by go_num,AP⟩
   case measure=>simp [intOf];omega
  go_simp;go_at_call 47;refine (View_e Y (3000+16000000*m) HA hn hc (1600*(mm+1)) 16 (some (a_ g)) n c kk Ad.drew Ei.o Ew.o BE o_ o_ AN.o.lt).mono ?_;rintro e CY ⟨⟨VA,vn,vc,rfl,AV⟩,Aa⟩;have Al:=q_ (AN.o.call Aa);have Ag:=q_ (Cr.o.go (Up.of_below Aa));have BB:=q_ AV.o;have AS:=q_ (EB.o.go (Up.of_below Aa) (l_));have AU:Below Ad Ad CY:=(Below.drew (Below.refl Ad Ad)).trans Aa;have Ax:=q_ AU;clear Aa AV AU;refine hK.out _ _ (A9.o _ _ Al.o) (fun hHeld=>?_);refine bb_ 11 fun K hK=>?_
  rw [if_pos (by rfl)];refine wp_load_mid 65 (.tmp 184) rfl g (kk*48) v_ vs _ (D6.o _ Ax.o) underlying65 rfl EE.o ?_;refine hK.out _ _ (A9.o _ _ Al.o) (fun hHeld=>?_);refine bb_ 19 fun K hK=>?_
  go_simp;go_at_call 46;refine (Step_t Y ((3000+16000000*m)+2*(1600*(mm+1))*16) k.CA k.cn k.cc k.cv k.cs k.l k.DA k.dn k.dc (1600*(mm+1)) vs VA vn vc CY (Ag.o.co.up (Kp.refl _ _) o_) Ag.o.li o_ (Ag.o.dv.up (Kp.refl _ _) o_) AS.o o_ BB.o Al.o.lt 0 pc sp BL.o).mono ?_;rintro e CZ ⟨⟨zs,Fl,rfl,BI,_⟩,Ai⟩;have AM:=q_ (Al.o.call Ai);have Bz:=q_ (Ag.o.go (Up.of_below Ai));have BC:=q_ BI;have AI:=q_ (Ax.o.trans (Ai.mono Ax.o.size));have IZ:=h_ ((prog.info? 65).map (·.size)=some zs.length) (by rw [BI.1];exact ao_);clear Ai BI;refine hK.out _ _ (A9.o _ _ AM.o) (fun hHeld=>?_);refine aa_ 20 173 ?_;refine aa_ 21 194 ?_;refine aa_ 22 195 ?_;refine aa_ 23 196 ?_;refine ba_ 24 k_ rfl (fun K hK=>?_);rw [if_pos (by rfl)];refine wp_store_mid 65 (.tmp 196) (.tmp 194) rfl g (kk*48) zs.toArray v_ v_ (by rw [List.size_toArray];exact fun j hj=>⟨by rw [D6.o _ AI.o j _ (ge_ (by rw [D8.o.1,←BC.o.1];simpa using hj))];rfl,(belf AI.o DS).trans (Eh.o _)⟩) (by rw [List.size_toArray];exact IZ.o) (by simpa using BC.o.one) ?_;have AP:=h_ (Md2 d X w w x q k (3000+16000000*m) (1600*(mm+1+1)) n (CZ.setCells g (kk*48) zs) Y C us (some (a_ g)) c nx) ((show Md2 d X w w x q k (3000+16000000*m) (1600*(mm+1)) n CZ Y C us (some (a_ g)) c nx from ⟨AM.o,A3.o.2.1,Bz.o,A3.o.2.2.2.1,A3.o.2.2.2.2⟩).put o_ DT (BC.o.up (Kp.refl _ _) o_));refine hK.out _ _ (A9.o _ _ AP.o.1) (fun hHeld=>?_);try simp only [Act.put,sA,s0,s1]
  refine wpAnyH_done k_ ?_ _;go_wp2_with fail;go_roundw
  case rel=>exact ⟨mm+1,Y,C,us,_,c,nx,o_,by go_num,AP⟩
  case measure=>simp [intOf];omega
 case rest =>
 rename World=>w50
 obtain ⟨M,Y,C,us,A,c,nx,Fm,hM⟩:=hcut;have Ae:=q_ hM.o.1;have A5:=q_ hM.o.2.1;have AC:=q_ hM.o.2.2.1;have AH:=q_ hM.o.2.2.2.1;have Az:=q_ hM.o.2.2.2.2;clear hM Ca;have HE:=q_ (scene_end (i:=1) (j:=2) Ae.o rfl rfl A5.o AC.o o_ AH.o Az.o BE Fm ED.o (l_) EX);have BX:=q_ (Ae.o.box (i:=1) rfl);have IX:=h_ ((prog.info? 43).map (·.size)=some (C x).length) (by rw [A5.o.lx];exact isz_43);have TH:=h_ (World.there _ w 0 (C x).length) ((Ae.o.box (i:=2) rfl).there (by rw [Ae.o.len (i:=2) rfl,A5.o.lx];decide));go_wp2_with (first | (with_reducible refine ac_ rfl 43 (.tmp 3) rfl _ underlying43 rfl v_ BX.o.whole IX.o ?_) | (with_reducible refine ab_ rfl 43 (.tmp 2) (.tmp 197) rfl (C x) w_ v_ TH.o IX.o HE.o.2.1 ?_) | fail);refine retC results9 (by rfl) underlying43 rfl IX.o HE.o.1.whole rfl ?_;exact HE.o.2.2
theorem tmod_facts (v:Int) (n:Nat) (h:1<=n):(v.tmod n<0->v.tmod n+n=v % n)/\(¬v.tmod n<0->v.tmod n=v % n):=by
 have hp:(0:Int)<n:=by omega
 have h1:=Int.tmod_lt_of_pos v hp;have h2:=Int.lt_tmod_of_pos v hp;have hd:=Int.tmod_def v n;have he:v % n=(v.tmod n) % n:=by
  have h3:v=v.tmod n+n*v.tdiv n:=by omega
  conv=>lhs;rw [h3]
  rw [Int.add_mul_emod_self_left]
 refine ⟨fun h0=>?_,fun h0=>?_⟩
 ·rw [he,←Int.add_emod_right,Int.emod_eq_of_lt o_ o_]
 rw [he,Int.emod_eq_of_lt o_ o_]
theorem mod_any (v:Int) (n:Nat) (w:World) (h0:1<=n) (h1:n<=1000000) (hv:-9223372036854775808<=v/\v<=9223372036854775807) :
  Calls prog 12 #[i_ v,i_ n] w fun e w'=>∃ r:Nat,r<n/\(r:Int)=v % n/\e=.returned (i_ r)/\Below w w w':=by
 have hp:(0:Int)<n:=by omega
 obtain ⟨r,hr⟩:∃ r:Nat,v % n=r:=⟨(v % n).toNat,by have:=Int.emod_nonneg v (show (n:Int)≠0 by omega);omega⟩;have e1:=Int.emod_lt_of_pos v hp;obtain ⟨t1,t2⟩:=tmod_facts v n h0;have A1:=q_ t1;have A2:=q_ t2;have HV:=q_ hv;have HR:=q_ hr;have b1:=Int.tmod_lt_of_pos v hp;have b2:=Int.lt_tmod_of_pos v hp;have A0:r<n:=by omega
 clear t1 t2 hv e1 hr;by_cases hn:v.tmod n<0
 ·go_enter func12,ntmps12;go_wp2;go_ret;exact ⟨r,A0,HR.o.symm,by rw [←HR.o,←A1.o hn];rfl,b_⟩
 go_enter func12,ntmps12;go_wp2;go_ret;exact ⟨r,A0,HR.o.symm,by rw [←HR.o,←A2.o hn];rfl,b_⟩
end Go.Proofs.YtfolidlmgfhkiaaGreat
namespace Go.Proofs.YtfolidlmgfhkiaaGreat.Dl
open Go.RowKit Go.Proofs.Tryz
structure Ds (w0:World) (d b6 b7:Nat) (vs:VL) (l:List Tk) (A:OA) (n c:Nat) (ts:List Pr) (QA:OA) (qc:Nat) (w:World):Prop where
 dice:Dice w d
 lt1:d<b6
 lt2:b6<b7
 x:Bx w b6 vs
 x15:vs[15]?=some (.slice A n c)
 cap:n<=c
 n16:n<=16
 tk:Sl w w 48 Tk.cells A n l
 tkA:0<n->∀ ad,A=some ad->ad.block≠d/\ad.block≠b7
 q:Bx w b7 [.slice QA ts.length qc]
 pr:Sl w w 3 Pr.cells QA ts.length ts
 prA:0<ts.length->∀ ad,QA=some ad->ad.block≠d/\ad.block≠b7
 good:Good ts
 le:ts.length<=256
 bel:Below w0 w0 w
 w0d:w0<=d
 sh:SlT w (fun q=>q=d∨q=b7) 70000 ae_ A n c
section
variable {w0 w w1:World} {d b6 b7 n c qc:Nat} {vs:VL} {l:List Tk} {A QA:OA} {ts:List Pr}
theorem Ds.kp (h:Ds w0 d b6 b7 vs l A n c ts QA qc w) (hk:Kp (fun q=>q=d) w w1) (hD:Dice w1 d):Ds w0 d b6 b7 vs l A n c ts QA qc w1 :=
 ⟨hD,h.lt1,h.lt2,h.x.kp hk (fun e=>by have e:b6=d:=e;have:=h.lt1;omega),h.x15,h.cap,h.n16,sl_kp h.tk hk (fun hn ad ha=>(h.tkA hn ad ha).1),h.tkA,h.q.kp hk (fun e=>by have e:b7=d:=e;have:=h.lt1;have:=h.lt2;omega),sl_kp h.pr hk (fun hn ad ha=>(h.prA hn ad ha).1),h.prA,h.good,h.le,
   h.bel.trans (hk.below h.bel.size (fun q hq e=>by have e:q=d:=e;have:=h.w0d;omega)),h.w0d,h.sh.up (hk.mono (fun _ _ e=>.inl e)) (l_)⟩
theorem Ds.pick (h:Ds w0 d b6 b7 vs l A n c ts QA qc w) (ht:cx_ w d w1):Ds w0 d b6 b7 vs l A n c ts QA qc w1 :=
 h.kp ((Kp.refl _ w).grown ht.grown (fun q hq=>by injection hq with hq;exact .inl hq.symm)) ht.dice
theorem Ds.below (h:Ds w0 d b6 b7 vs l A n c ts QA qc w) (hb:Below w w w1):Ds w0 d b6 b7 vs l A n c ts QA qc w1:=h.kp (.of_below hb) (h.dice.below hb)
theorem Ds.put (h:Ds w0 d b6 b7 vs l A n c ts QA qc w) (hb:Below w w w1) {A':OA} {n' c':Nat} {ts':List Pr} (hs:Sl w1 w1 3 Pr.cells A' n' ts') (hA:∀ ad,A'=some ad->w<=ad.block) (hg:Good ts') (hl:ts'.length<=256) :
  Ds w0 d b6 b7 vs l A n c ts' A' c' (w1.setCell (a_ b7) (.slice A' n' c')):=by
 have h1:=h.below hb;have A2:b7<w:=h.q.1;have A1:n'=ts'.length:=hs.len.symm;subst A1;have hk:Kp (fun q=>q=b7) w1 (w1.setCell (a_ b7) (.slice A' ts'.length c')):=(Kp.refl (fun q=>q=b7) w1).setCell (p:=(a_ b7)) (.inl rfl) _;have A0:d<b7:=by have:=h.lt1;have:=h.lt2;omega
 refine ⟨h1.dice.set (p:=(a_ b7)) A0 _,h.lt1,h.lt2,h1.x.far (p:=(a_ b7)) (fun e=>by have e:b7=b6:=e;have:=h.lt2;omega) _,h.x15,h.cap,h.n16,sl_kp h1.tk hk (fun hn ad ha=>(h.tkA hn ad ha).2),h.tkA,h1.q.set 0 _,sl_kp hs hk (fun hn ad ha e=>by have e:ad.block=b7:=e;have:=hA ad ha;omega),fun _ ad ha=>?_,hg,hl,h1.bel.setCell (p:=(a_ b7)) (by show _<=b7;have:=h.w0d;omega) _,h.w0d,h1.sh.up (hk.mono (fun _ _ e=>.inr e)) (l_)⟩;have:=hA ad ha;omega
theorem Ds.start (h:Ds w0 d b6 b7 vs l A n c ts QA qc w) {k:Nat} (hk:k<n):∃ g o t,A=some (f_ g o)/\l[k]?=some t/\w.cell? ⟨g,o+k*48,none⟩=some (i_ t.start)/\w.cell? ⟨g,o+k*48+42,none⟩=some (i_ t.status):=by
 obtain ⟨g,o,e,_,hc⟩:=h.tk.at_ o_;obtain ⟨t,ht⟩:∃ t,l[k]?=some t:=⟨_,ge_ (by rw [h.tk.len];exact hk)⟩;refine ⟨g,o,t,e,ht,?_,?_⟩
 ·have:=hc k t ht 0 _ t.c0
  simpa using this
 have:=hc k t ht 42 _ t.c42
 rwa [←Nat.add_assoc] at this
end
theorem sl_empty {w:World} {X:NP} {K g:Nat} (e:List CT) (hg:g<w) (hgX:¬X g):SlT w X K e (some (a_ g)) 0 0:=by
 refine ⟨Nat.zero_le _,l_,o_,x_,fun ad A0=>?_⟩;injection A0 with A0;exact ⟨g,0,A0.symm,hg,hgX,fun _ _=>undef,fun k j t hk _=>absurd hk (Nat.not_lt_zero k),fun k j t hk _=>absurd hk (Nat.not_lt_zero k)⟩
theorem run_dup {w:World} {X:NP} {A:OA} {n c g:Nat} (hs:SlT w X 70000 ae_ A n c) (hg:g<w) (hgX:¬X g) (hX:∀ k,X k->k<w) (hn:n<=16) :
  ∃ A' c' w',(Builtin.append_ #[41,41] 41 #[.slice (some (a_ g)) 0 0,.slice A n c]).run prog w=.ok (.slice A' n c') w'/\Below w w w'/\n<=c'/\(0<n->OwT w' w 65 ae_ X 70000 A' n c'):=by
 obtain ⟨i0,A0,A3,A4,A5⟩:=info_parts infoTask;by_cases h0:n=0
 ·subst h0;exact ⟨some (a_ g),0,w,ci_ w _ _ 65 i0 underlying41 A0 _ 0 0 (l_) A c,b_,l_,fun h=>absurd h d_⟩
 have hd:SlT w X 70000 ae_ (some (a_ g)) 0 0:=sl_empty ae_ hg hgX;obtain ⟨A',c',w',hr,ho,hb⟩:=eq_ (P:=prog) w 41 41 65 i0 _ 480 ae_ X 70000 underlying41 A0 A3 (show i0.size=ae_.length from A4) A5 (by rfl) d_ (some (a_ g)) 0 0 hd A n c hs o_ o_ hX m_ o_;rw [Nat.zero_add] at hr ho;obtain ⟨xs,A1,A2⟩:=ho;exact ⟨A',c',w',hr,hb,(dc_ A1).1,fun _=>⟨xs,A1,A2⟩⟩
end Go.Proofs.YtfolidlmgfhkiaaGreat.Dl
namespace Go.Proofs.YtfolidlmgfhkiaaGreat
open Go.RowKit
theorem scene_one {k:Cst} {us vs:VL} {N n c:Nat} {Y:NP} {w:World} {A:OA} {nx:Int} (hc:XC k us vs) (ht:XT k N us Y w) (h15:vs[15]?=some (.slice A n c)) (h16:vs[16]?=some (i_ nx)):∀ u ∈ vs,u.oneCell'=true:=fun u hu=>by
 obtain ⟨q,hq⟩:=List.getElem?_of_mem hu;have A0:=(e_ hq).1;rw [hc.lx] at A0;have f:∀ {i:Nat} {v:Value},vs[i]?=some v->q=i->v.oneCell'=true->u.oneCell'=true:=fun {i v} h e h1=>by subst e;rw [h] at hq;injection hq with hq;subst hq;exact h1
 by_cases h5:q<5
 ·have:q=0∨q=1∨q=2∨q=3∨q=4:=by omega
  rcases this with e | e | e | e | e
  ·exact f hc.c0 e rfl
  ·exact f hc.c1 e rfl
  ·exact f hc.c2 e rfl
  ·exact f hc.c3 e rfl
  exact f hc.c4 e rfl
 by_cases h10:q<15
 ·have hj:q - 5<us.length:=by rw [hc.len];omega
  exact f (hc.cu (q - 5) _ (ge_ hj)) o_ (ht.us.one _ (List.getElem_mem hj))
 have:q=15∨q=16:=by omega
 rcases this with e | e
 ·exact f h15 e rfl
 exact f h16 e rfl
end Go.Proofs.YtfolidlmgfhkiaaGreat
namespace Go.Proofs.YtfolidlmgfhkiaaGreat.Dl
open Go.RowKit Go.Proofs.Tryz
theorem ends_any (SA:OA) (sn sc:Nat) (sl:List Int) (thr:Int) (w:World) (hs:Sl w w 1 byteCells SA sn sl) (hsl:∀ (i:Nat) (x:Int),sl[i]?=some x->0<=x/\x<=255) (hnc:sn<=sc) (hsn:sn<=9223372036854775807) (hsc:sc<=9223372036854775807) (hth:-9223372036854775808<=thr/\thr<=9223372036854775807) :
  Calls prog 6 #[.slice SA sn sc,i_ thr] w fun e w'=>e=.returned (.bool true)/\Below w w w':=by
 have Bf:=q_ hs;have Av:=q_ hsl;have BM:=q_ hth;clear hs hsl hth;go_enter func6,ntmps6;go_wp2_with fail;refine (sane_any w).mono ?_;rintro e w1 ⟨rfl,B3⟩;have Bg:=q_ (Bf.o.up B3);have AJ:=q_ B3;clear B3 Bf;go_wp2_with fail;refine (new_dice SA sn sc sl w1 Bg.o Av.o hnc hsn hsc).mono ?_;rintro e w2 ⟨d,rfl,hD,Bn,Bk⟩;have AN:=q_ (AJ.o.trans (Bk.mono AJ.o.size));have AS:=q_ hD;have Bv:w<=d:=Nat.le_trans AJ.o.size Bn;have AY:=q_ Bv;clear Bk hD Bn Bg Av AJ;go_wp2_with fail;refine (Made_m d (fun q=>q=d) w2 AS.o (fun q hq=>by subst hq;exact AS.o.lt) rfl).mono ?_;rintro e w3 ⟨⟨k,us,vs,A,n,c,nx,rfl,B8,Bw,AZ,AE,B7,Bh⟩,hR⟩;have AO:=h_ (Below w w w3) (AN.o.trans (hR.kp.below AN.o.size (fun q hq e=>by subst e;have:=AY.o;omega)));obtain ⟨l,hl⟩:=tks_of B7.o;have HL:=q_ hl;have AK:=q_ B7.o;have AT:=q_ hR.dice;have Aw:=q_ AZ;have AI:vs.length=cq_.length:=B8.o.lx;have BO:=q_ AI;have H1:=h_ (∀ u ∈ vs,u.oneCell'=true) (scene_one B8.o Bw.o AZ Bh);have IV:=h_ ((prog.info? 43).map (·.size)=some vs.length) (by rw [AI];exact isz_43);have BN:=q_ (Bx.new w3 zl7 43);have TH:=h_ ((w3.alloc (.cells zl7.toArray 43)).there w3 0 vs.length) (BN.o.there (by rw [AI];decide));obtain ⟨V,hV⟩:=ex_ ((w3.alloc (.cells zl7.toArray 43)).setCells w3 0 vs);have Bl:Below w3 w3 V:=by rw [hV];exact (ai_ w3 vs 0 (Kp.of_below (X:=fun _=>False) ((b_).alloc (l_) _)) (.inr (l_))).below (l_) (fun _ _ h=>h)
 have BV:=h_ (Bx V w3 vs) (by rw [hV];exact BN.o.all vs AI);have AR:=q_ Bl;clear hR hl B7 B8 Bw AZ Bh AI Bl;go_upto_region 5 with (with_reducible refine ab_ rfl 43 (.tmp 6) (.tmp 22) rfl vs w_ v_ TH.o IV.o H1.o ?_);rw [←hV];clear hV BN TH IV H1;obtain ⟨U,hU,B2,BP,U0⟩:=af_ V [.slice none 0 0] 73;obtain ⟨b6,Ae⟩:=ex_ (w3:Nat);obtain ⟨b7,B4⟩:=ex_ (V:Nat);have Bm:=AT.o.lt;have By:(w3:Nat)<V:=BV.o.1;have Ap:=q_ (AR.o.trans (B2.mono AR.o.size));have Al:=q_ (show Ds w d w3 V vs l A n c [] none 0 U from
  ⟨AT.o.below Ap.o,Bm,By,BV.o.below B2,Aw.o,AK.o.cap,AE,HL.o.up Ap.o,fun hn ad ha=>by
   obtain ⟨ab,ao,e,BT,_⟩:=HL.o.at_ hn
   rw [ha] at e;injection e with e;subst e
   obtain ⟨g,o,e2,_,hX,_⟩:=AK.o.at_ _ ha
   injection e2 with e2 _
   have e2:ab=g:=e2
   subst e2
   exact ⟨hX,fun e=>by have e:ab=V:=e;omega⟩,U0,Sl.nil,fun h=>absurd h d_,good_nil,d_,AO.o.trans (Ap.o.mono AO.o.size),AY.o,AK.o.kept (Kp.of_below Ap.o) (fun q hq h1 h2=>by rcases h2 with h2 | h2;exact h1 h2;omega) (l_)⟩)
 go_upto_region 6 with fail;rw [←hU,←Ae,←B4];rw [←Ae,←B4] at Al;have BY:b6<b7:=Al.o.lt2;have BZ:d<b6:=Al.o.lt1;clear hU Ae B4 B2 BP U0 Bm By Ap AR BV HL AK AT Aw BO AO AS AN AY Bv;have x15:=Al.o.x.2.1 15 _ Al.o.x15;go_upto_block 0 with fail;clear x15;go_cut [] (fun wx=>∃ (ts:List Pr) (QA:OA) (qc:Nat),Hid (Ds w d b6 b7 vs l A n c ts QA qc wx))
 case first =>
  go_wp2_with fail;go_loopw [26] (fun i wr=>∃ (kk:Nat) (ts:List Pr) (QA:OA) (qc:Nat),kk<=n/\i=i_ kk/\Hid (Ds w d b6 b7 vs l A n c ts QA qc wr)) (fun i _=>n - (intOf i).toNat)
  case atStart=>exact ⟨0,[],none,0,o_,rfl,Al⟩
  obtain ⟨kk,ts,QA,qc,hk,rfl,A0⟩:=hrel;by_cases hkn:kk<n
  case neg =>
   have Am:¬(kk:Int)<(n:Int):=by omega
   go_wp2_with fail;go_meet;exact ⟨ts,QA,qc,A0⟩
  case pos =>
  have Am:(kk:Int)<(n:Int):=by omega
  go_upto_block 1 with fail;go_cut [] (fun wx=>∃ (ts:List Pr) (QA:OA) (qc:Nat),Hid (Ds w d b6 b7 vs l A n c ts QA qc wx))
  case first =>
   go_wp2_with fail;go_loopw [9] (fun i wr=>∃ (jj:Nat) (ts:List Pr) (QA:OA) (qc:Nat),jj<=kk/\i=i_ jj/\Hid (Ds w d b6 b7 vs l A n c ts QA qc wr)) (fun i _=>kk - (intOf i).toNat)
   case atStart=>exact ⟨0,ts,QA,qc,o_,rfl,A0⟩
   obtain ⟨jj,ts,QA,qc,hj,rfl,A0⟩:=hrel;by_cases hjk:jj<kk
   case neg =>
    have BR:¬(jj:Int)<(kk:Int):=by omega
    go_wp2_with fail;go_meet;exact ⟨ts,QA,qc,A0⟩
   case pos =>
   have BR:(jj:Int)<(kk:Int):=by omega
   go_upto_block 3 with fail;go_cut [] (fun wx=>∃ (ts:List Pr) (QA:OA) (qc:Nat),Hid (Ds w d b6 b7 vs l A n c ts QA qc wx))
   case first =>
    have Bd:=q_ A0.o.dice;go_wp2_with fail;refine (bo_ d 4 _ Bd.o d_ d_).mono ?_;rintro e w5 ⟨r,hr,rfl,Bu,-⟩;have BA:=q_ (A0.o.pick Bu);clear Bu Bd A0;go_wp2_with fail;go_loopw [10] (fun i wr=>∃ (mm:Nat) (ts:List Pr) (QA:OA) (qc:Nat),mm<=r/\i=i_ ((r:Int) - (mm:Int))/\Hid (Ds w d b6 b7 vs l A n c ts QA qc wr)) (fun i _=>(intOf i).toNat)
    case atStart=>exact ⟨0,ts,QA,qc,o_,by simp,BA⟩
    obtain ⟨mm,ts,QA,qc,hm,rfl,A0⟩:=hrel;by_cases hmr:mm<r
    case neg =>
     have BU:¬(0:Int)<(r:Int) - (mm:Int):=by omega
     go_wp2_with fail;go_meet;exact ⟨ts,QA,qc,A0⟩
    case pos =>
    have BU:(0:Int)<(r:Int) - (mm:Int):=by omega
    obtain ⟨g,o,t1,rfl,Bt,s1,_⟩:=A0.o.start (show jj<n by omega);obtain ⟨g',o',t2,B0,AH,s2,_⟩:=A0.o.start hkn;injection B0 with B0;injection B0 with e1 e2;subst e1 e2;have Bq:(jj:Int)<(n:Int):=by omega
    have A5:=q_ (A0.o.below (Below.drew (b_)));have x15:=A5.o.x.2.1 15 _ A5.o.x15;have q0:=A5.o.q.2.1 0 _ rfl;have Ac:=h_ (∀ w':World,Below wr.drew wr.drew w'->((w'.cell? (f_ b6 15)=some (.slice (some (f_ g o)) n c)/\w'.cell? ⟨g,o+jj*48,none⟩=some (i_ t1.start)/\w'.cell? ⟨g,o+kk*48,none⟩=some (i_ t2.start)))) (fun w' hb=>by
     have h:=A5.o.below hb
     obtain ⟨g2,o2,t3,A9,A3,s3,_⟩:=h.start (show jj<n by omega)
     obtain ⟨g4,o4,t4,Aa,A4,s4,_⟩:=h.start hkn
     injection A9 with A9
     injection A9 with e1 e2
     subst e1 e2
     injection Aa with Aa
     injection Aa with e1 e2
     subst e1 e2
     rw [Bt] at A3
     rw [AH] at A4
     injection A3 with A3
     injection A4 with A4
     subst A3 A4
     exact ⟨h.x.2.1 15 _ h.x15,s3,s4⟩)
    clear s1 s2 x15;go_upto_region 15 with fail;refine ar_ (S:=fun w':World=>(w'.cell? (f_ b6 15)=some (.slice (some (f_ g o)) n c)/\w'.cell? ⟨g,o+jj*48,none⟩=some (i_ t1.start)/\w'.cell? ⟨g,o+kk*48,none⟩=some (i_ t2.start))) rfl (Ac.o _ (b_)) (fun _=>?_);go_simp;refine aa_ 1 41 ?_;refine aa_ 2 42 ?_;refine aa_ 3 43 ?_;refine aa_ 4 44 ?_;refine aa_ 5 45 ?_;refine aa_ 6 46 ?_;refine aa_ 7 47 ?_;refine aa_ 8 48 ?_;refine aa_ 9 49 ?_;refine aa_ 10 50 ?_;refine aa_ 11 51 ?_;refine aa_ 12 52 ?_;refine ba_ 0 k_ rfl (fun K hK=>?_);go_simp;refine hK.out _ _ (Ac.o _ (b_)) (fun _=>?_);refine bb_ 13 fun K hK=>?_
    go_simp;go_at_call 29;refine (train_any QA ts.length qc ts t1.start t2.start wr.drew A5.o.pr (by have:=A5.o.le;omega) A5.o.good).mono ?_;rintro e w6 ⟨A6,n6,c6,rfl,Bs,Ae,Bo⟩;have Bb:=q_ Ae;have BJ:=q_ Bs;have BE:=q_ Bo;have q6:=(A5.o.below Ae).q.2.1 0 _ rfl;have f6:=(A5.o.below Ae).q.2.2;clear Ae Bs Bo q0;refine hK.out _ _ (Ac.o _ Bb.o) (fun _=>?_);refine bb_ 14 fun K hK=>?_
    go_simp;have Bc:=q_ (A5.o.put (c':=c6) Bb.o BJ.o BE.o (train_good A5.o.good _ _) (train_le A5.o.le _ _));refine hK.out _ _ ?_ (fun _=>?_)
    ·have h:=Bc.o;obtain ⟨g2,o2,t3,A9,A3,s3,_⟩:=h.start (show jj<n by omega);obtain ⟨g4,o4,t4,Aa,A4,s4,_⟩:=h.start hkn;injection A9 with A9;injection A9 with e1 e2;subst e1 e2;injection Aa with Aa;injection Aa with e1 e2;subst e1 e2;rw [Bt] at A3;rw [AH] at A4;injection A3 with A3;injection A4 with A4;subst A3 A4;exact ⟨h.x.2.1 15 _ h.x15,s3,s4⟩
    try simp only [Act.put,sA,s0,s1]
    refine wpAnyH_done k_ ?_ _;go_wp2_with fail;go_roundw
    case rel=>exact ⟨mm+1,_,_,_,o_,by go_num,Bc⟩
    case measure=>simp [intOf];omega
   case rest =>
   rename World=>w8
   obtain ⟨ts,QA,qc,BB⟩:=hcut;go_wp2_with fail;go_roundw
   case rel=>exact ⟨jj+1,ts,QA,qc,o_,by go_num,BB⟩
   case measure=>simp [intOf];omega
  case rest =>
  rename World=>w9
  obtain ⟨ts,QA,qc,BC⟩:=hcut;go_wp2_with fail;go_roundw
  case rel=>exact ⟨kk+1,ts,QA,qc,o_,by go_num,BC⟩
  case measure=>simp [intOf];omega
 case rest =>
 rename World=>w10
 obtain ⟨ts,QA,qc,Aq⟩:=hcut;clear Al;go_wp2_with fail;refine (mod_any thr 3 w10 d_ d_ BM.o).mono ?_;rintro e C2 ⟨r,C0,-,rfl,Ax⟩;have Af:=q_ (Aq.o.below Ax);have C1:IntKind.i64.wrap (1+(r:Int))=1+(r:Int):=by rw [IntKind.wrap_i64];omega
 clear Ax Aq;have x15:=Af.o.x.2.1 15 _ Af.o.x15;go_upto_block 6 with fail;clear x15;go_cut [] (fun wx=>Hid (Ds w d b6 b7 vs l A n c ts QA qc wx))
 case first =>
  go_wp2_with fail;go_loopw [61] (fun i wr=>∃ kk:Nat,kk<=n/\i=i_ kk/\Hid (Ds w d b6 b7 vs l A n c ts QA qc wr)) (fun i _=>n - (intOf i).toNat)
  case atStart=>exact ⟨0,o_,rfl,Af⟩
  obtain ⟨kk,hk,rfl,A0⟩:=hrel;by_cases hkn:kk<n
  case neg =>
   have Am:¬(kk:Int)<(n:Int):=by omega
   go_wp2_with fail;go_meet;exact A0
  case pos =>
  have Am:(kk:Int)<(n:Int):=by omega
  obtain ⟨g,o,t,rfl,ht,s0,_⟩:=A0.o.start hkn;have x15:=A0.o.x.2.1 15 _ A0.o.x15;have q0:=A0.o.q.2.1 0 _ rfl;have HT:=q_ ht;clear ht s0;go_wp2_with fail;refine (waits_any QA ts.length qc ts (some (f_ g o)) n c l kk (1+(r:Int)) t _ A0.o.pr A0.o.good.1 (by have:=A0.o.le;omega) A0.o.tk (by have:=A0.o.n16;omega) A0.o.cap HT.o o_).mono ?_;rintro e AM ⟨rfl,Ay⟩;have Ar:=q_ (A0.o.below Ay);clear Ay x15 q0 A0;rcases waits_is ts l kk (1+(r:Int)) t.start with hwt | ⟨jj,t2,hwt,hjk,AH,Ab,hcnt⟩
  ·rw [hwt];clear hwt;have Ad:decide ((kk:Int)<=-1)=false:=decide_eq_false o_;have A7:=q_ (Ar.o.below (Below.drew (b_)));go_upto_region 22 with fail;refine ar_ (S:=fun _:World=>True) rfl trivial (fun _=>?_);go_simp;refine aa_ 0 70 ?_;refine aa_ 1 71 ?_;refine aa_ 2 72 ?_;try simp only [Ad]
   refine aa_ 3 73 ?_;refine aa_ 4 74 ?_;refine aa_ 5 75 ?_;refine aa_ 6 76 ?_;refine aa_ 7 77 ?_;refine aa_ 8 78 ?_;refine aa_ 9 79 ?_;refine aa_ 10 80 ?_;refine ag_ 11 81 ?_;refine ag_ 12 82 ?_;refine ag_ 13 83 ?_;refine ag_ 14 84 ?_;refine ag_ 15 85 ?_;refine ag_ 16 86 ?_;refine ag_ 17 87 ?_;refine ag_ 18 88 ?_;refine ag_ 19 89 ?_;refine ag_ 20 90 ?_;refine ag_ 21 91 ?_;refine ag_ 22 92 ?_;refine ag_ 23 93 ?_;refine ag_ 24 94 ?_;refine ag_ 25 95 ?_;refine ag_ 26 96 ?_;refine ag_ 27 97 ?_;refine ag_ 28 98 ?_;refine ag_ 29 99 ?_;refine ag_ 30 100 ?_;refine ag_ 31 101 ?_;refine ag_ 32 102 ?_;refine ag_ 33 103 ?_;refine ag_ 34 104 ?_;refine ag_ 35 105 ?_;refine ag_ 36 106 ?_;refine ag_ 37 107 ?_;refine ag_ 38 108 ?_;refine ag_ 39 109 ?_;refine ag_ 40 110 ?_;refine ag_ 41 111 ?_;refine ag_ 42 112 ?_;refine ag_ 43 113 ?_;refine ag_ 44 114 ?_;refine aa_ 45 115 ?_;refine aa_ 46 116 ?_;refine wpAnyH_done k_ ?_ _;go_wp2_with fail;go_roundw
   case rel=>exact ⟨kk+1,o_,by go_num,A7⟩
   case measure=>simp [intOf];omega
  rw [hwt];clear hwt;have Bq:jj<n:=by omega
  have BS:(jj:Int)<(n:Int):=by omega
  have Ad:decide ((kk:Int)<=(jj:Int))=false:=decide_eq_false o_;have Ak:decide (kk<=jj)=false:=decide_eq_false o_;have Ah:decide ((jj:Int) < -1)=false:=decide_eq_false o_;have Ai:decide ((0:Int)<=(jj:Int))=true:=decide_eq_true o_;have Aj:decide (countP ts t2.start t.start<1+(r:Int))=false:=decide_eq_false o_;have BL:=q_ AH;have A7:=q_ (Ar.o.below (Below.drew (b_)));have Ac:=h_ (∀ w':World,Below AM.drew AM.drew w'->(w'.cell? (f_ b6 15)=some (.slice (some (f_ g o)) n c)/\w'.cell? (a_ b7)=some (.slice QA ts.length qc)/\w'.cell? ⟨g,o+jj*48+42,none⟩=some (i_ t2.status)/\w'.cell? ⟨g,o+jj*48,none⟩=some (i_ t2.start)/\w'.cell? ⟨g,o+kk*48,none⟩=some (i_ t.start))) (fun w' hb=>by
   have h:=A7.o.below hb
   obtain ⟨g2,o2,t3,A9,A3,s3,s4⟩:=h.start Bq
   obtain ⟨g4,o4,t4,Aa,A4,s5,_⟩:=h.start hkn
   injection A9 with A9
   injection A9 with e1 e2
   subst e1 e2
   injection Aa with Aa
   injection Aa with e1 e2
   subst e1 e2
   rw [BL.o] at A3
   rw [HT.o] at A4
   injection A3 with A3
   injection A4 with A4
   subst A3 A4
   exact ⟨h.x.2.1 15 _ h.x15,h.q.2.1 0 _ rfl,s4,s3,s5⟩)
  clear AH hcnt;go_upto_region 22 with fail;rcases Ab with Ab | Ab
  ·rw [Ab] at Ac;refine ar_ (S:=fun w':World=>(w'.cell? (f_ b6 15)=some (.slice (some (f_ g o)) n c)/\w'.cell? (a_ b7)=some (.slice QA ts.length qc)/\w'.cell? ⟨g,o+jj*48+42,none⟩=some (i_ 0)/\w'.cell? ⟨g,o+jj*48,none⟩=some (i_ t2.start)/\w'.cell? ⟨g,o+kk*48,none⟩=some (i_ t.start))) rfl (Ac.o _ (b_)) (fun _=>?_);go_simp;refine aa_ 0 70 ?_;refine aa_ 1 71 ?_;refine aa_ 2 72 ?_;try simp only [Ad]
   try simp only [Ah]
   try simp only [Ai]
   try simp only [Aj]
   try simp only [Ak]
   refine aa_ 3 73 ?_;refine aa_ 4 74 ?_;refine aa_ 5 75 ?_;try simp only [Ad]
   try simp only [Ah]
   try simp only [Ai]
   try simp only [Aj]
   try simp only [Ak]
   refine aa_ 6 76 ?_;refine aa_ 7 77 ?_;refine aa_ 8 78 ?_;refine aa_ 9 79 ?_;try simp only [Ad]
   try simp only [Ah]
   try simp only [Ai]
   try simp only [Aj]
   try simp only [Ak]
   refine aa_ 10 80 ?_;refine aa_ 11 81 ?_;refine aa_ 12 82 ?_;refine aa_ 13 83 ?_;refine aa_ 14 84 ?_;refine aa_ 15 85 ?_;refine aa_ 16 86 ?_;refine aa_ 17 87 ?_;refine aa_ 18 88 ?_;refine ag_ 19 89 ?_;refine ag_ 20 90 ?_;refine ag_ 21 91 ?_;refine ag_ 22 92 ?_;refine ag_ 23 93 ?_;refine ag_ 24 94 ?_;refine ag_ 25 95 ?_;refine aa_ 26 96 ?_;refine aa_ 27 97 ?_;refine aa_ 28 98 ?_;refine aa_ 29 99 ?_;refine aa_ 30 100 ?_;refine aa_ 31 101 ?_;refine aa_ 32 102 ?_;refine aa_ 33 103 ?_;refine aa_ 34 104 ?_;refine aa_ 35 105 ?_;refine aa_ 36 106 ?_;refine aa_ 37 107 ?_;refine aa_ 38 108 ?_;refine aa_ 39 109 ?_;refine aa_ 40 110 ?_;refine aa_ 42 112 ?_;refine ba_ 41 k_ rfl (fun K hK=>?_);go_simp;go_at_call 30;refine (ew_ QA ts.length qc ts t2.start t.start AM.drew A7.o.pr A7.o.good.1 (by have:=A7.o.le;omega)).mono ?_;rintro e B9 ⟨rfl,A2⟩;have AV:=q_ (A7.o.below A2);have AW:=q_ (Ac.o B9 A2);clear A2;refine hK.out _ _ AW.o (fun _=>?_);refine aa_ 43 113 ?_;try simp only [Ad]
   try simp only [Ah]
   try simp only [Ai]
   try simp only [Aj]
   try simp only [Ak]
   refine aa_ 44 114 ?_;refine aa_ 45 115 ?_;refine aa_ 46 116 ?_;refine wpAnyH_done k_ ?_ _;go_wp2_with fail;go_roundw
   case rel=>exact ⟨kk+1,o_,by go_num,AV⟩
   case measure=>simp [intOf];omega
  rw [Ab] at Ac;refine ar_ (S:=fun w':World=>(w'.cell? (f_ b6 15)=some (.slice (some (f_ g o)) n c)/\w'.cell? (a_ b7)=some (.slice QA ts.length qc)/\w'.cell? ⟨g,o+jj*48+42,none⟩=some (i_ 1)/\w'.cell? ⟨g,o+jj*48,none⟩=some (i_ t2.start)/\w'.cell? ⟨g,o+kk*48,none⟩=some (i_ t.start))) rfl (Ac.o _ (b_)) (fun _=>?_);go_simp;refine aa_ 0 70 ?_;refine aa_ 1 71 ?_;refine aa_ 2 72 ?_;try simp only [Ad]
  try simp only [Ah]
  try simp only [Ai]
  try simp only [Aj]
  try simp only [Ak]
  refine aa_ 3 73 ?_;refine aa_ 4 74 ?_;refine aa_ 5 75 ?_;try simp only [Ad]
  try simp only [Ah]
  try simp only [Ai]
  try simp only [Aj]
  try simp only [Ak]
  refine aa_ 6 76 ?_;refine aa_ 7 77 ?_;refine aa_ 8 78 ?_;refine aa_ 9 79 ?_;try simp only [Ad]
  try simp only [Ah]
  try simp only [Ai]
  try simp only [Aj]
  try simp only [Ak]
  refine aa_ 10 80 ?_;refine aa_ 11 81 ?_;refine aa_ 12 82 ?_;refine aa_ 13 83 ?_;refine aa_ 14 84 ?_;refine aa_ 15 85 ?_;refine aa_ 16 86 ?_;refine aa_ 17 87 ?_;refine aa_ 18 88 ?_;refine aa_ 19 89 ?_;refine aa_ 20 90 ?_;refine aa_ 21 91 ?_;refine aa_ 22 92 ?_;refine aa_ 23 93 ?_;refine aa_ 24 94 ?_;refine aa_ 25 95 ?_;refine aa_ 26 96 ?_;refine aa_ 27 97 ?_;refine aa_ 28 98 ?_;refine aa_ 29 99 ?_;refine aa_ 30 100 ?_;refine aa_ 31 101 ?_;refine aa_ 32 102 ?_;refine aa_ 33 103 ?_;refine aa_ 34 104 ?_;refine aa_ 35 105 ?_;refine aa_ 36 106 ?_;refine aa_ 37 107 ?_;refine aa_ 38 108 ?_;refine aa_ 39 109 ?_;refine aa_ 40 110 ?_;refine aa_ 42 112 ?_;refine ba_ 41 k_ rfl (fun K hK=>?_);go_simp;go_at_call 30;refine (ew_ QA ts.length qc ts t2.start t.start AM.drew A7.o.pr A7.o.good.1 (by have:=A7.o.le;omega)).mono ?_;rintro e B9 ⟨rfl,A2⟩;have AV:=q_ (A7.o.below A2);have AW:=q_ (Ac.o B9 A2);clear A2;refine hK.out _ _ AW.o (fun _=>?_);refine aa_ 43 113 ?_;try simp only [Ad]
  try simp only [Ah]
  try simp only [Ai]
  try simp only [Aj]
  try simp only [Ak]
  refine aa_ 44 114 ?_;refine aa_ 45 115 ?_;refine aa_ 46 116 ?_;refine wpAnyH_done k_ ?_ _;go_wp2_with fail;go_roundw
  case rel=>exact ⟨kk+1,o_,by go_num,AV⟩
  case measure=>simp [intOf];omega
 case rest =>
 rename World=>w20
 have A1:=hcut;clear Af;have x15:=A1.o.x.2.1 15 _ A1.o.x15;have Ae:b6<w20:=A1.o.x.1;have An:Below w20 w20 (w20.alloc (.cells #[] 65)):=(b_).alloc (l_) _;have AL:∀ q,(fun q=>q=d∨q=b7) q->q<w20:=fun q hq=>by
  rcases hq with hq | hq
  ·subst hq;exact A1.o.dice.lt
  subst hq;exact A1.o.q.1
 have BG:=q_ AL;obtain ⟨DA,dc,Ba,AG,Az,B5,AF⟩:=run_dup (w:=(w20.alloc (.cells #[] 65))) (g:=w20) (A1.o.sh.up (Kp.of_below An) (l_)) t_ (fun h=>by have:=AL _ h;omega) (fun q hq=>by have:=AL q hq;simp;omega) AE;have Au:=q_ AG;have Ao:=h_ (Below w20 w20 Ba) (An.trans (Az.mono An.size));have Be:=h_ (0<n->∃ g,DA=some (a_ g)/\w20<=g/\OwT Ba w20 65 ae_ (fun q=>q=d∨q=b7) 70000 (some (a_ g)) n dc/\∀ j,j<0->Ba.cell? ⟨g,j*48+42,none⟩=some (i_ 2)) (fun h0=>by
  have hO:=AF h0
  obtain ⟨g,rfl,AC,_,_⟩:=hO.addr h0
  exact ⟨g,rfl,Nat.le_trans An.size AC,hO.mono An.size (l_),fun j hj=>absurd hj o_⟩)
 clear AG Az AF An AL;go_upto_region 26 with (at_builtin;refine Lib.wpList_append_run _ rfl _ _ 41 41 rfl _ _ v_ v_ _ _ Au.o ?_);clear x15 Au Ae;go_upto_block 8 with fail;go_cut [] (fun wx=>Hid (Below w20 w20 wx)/\Hid (0<n->∃ g,DA=some (a_ g)/\w20<=g/\OwT wx w20 65 ae_ (fun q=>q=d∨q=b7) 70000 (some (a_ g)) n dc/\∀ j,j<n->wx.cell? ⟨g,j*48+42,none⟩=some (i_ 2)))
 case first =>
  go_wp2_with fail;go_loopw [124] (fun i wr=>∃ kk:Nat,kk<=n/\i=i_ kk/\Hid (Below w20 w20 wr)/\Hid (0<n->∃ g,DA=some (a_ g)/\w20<=g/\OwT wr w20 65 ae_ (fun q=>q=d∨q=b7) 70000 (some (a_ g)) n dc/\∀ j,j<kk->wr.cell? ⟨g,j*48+42,none⟩=some (i_ 2))) (fun i _=>n - (intOf i).toNat)
  case atStart=>exact ⟨0,o_,rfl,Ao,Be⟩
  obtain ⟨kk,hk,rfl,Ag,B6⟩:=hrel;by_cases hkn:kk<n
  case neg =>
   have Am:¬(kk:Int)<(n:Int):=by omega
   obtain rfl:kk=n:=by omega
   go_wp2_with fail;go_meet;exact ⟨Ag,B6⟩
  case pos =>
  have Am:(kk:Int)<(n:Int):=by omega
  obtain ⟨g,B1,AC,hO,Ab⟩:=B6.o o_;obtain ⟨_,A8,_,BQ,Bp⟩:=hO.addr o_;injection A8 with A8;injection A8 with A8;subst A8;obtain ⟨g',o',hA,_,_,tv,hv,hm⟩:=(hO.sle o_).el kk hkn;injection hA with hA;injection hA with e1 e2;subst e1 e2;obtain ⟨sv,Bi⟩:=hv.num (j:=42) rfl;have BW:wr.cell? ⟨g,kk*48+42,none⟩=some (i_ sv):=by have:=hm 42 _ Bi;rwa [Nat.zero_add] at this
  have BH:=q_ (hO.set (k:=kk) (j:=42) hkn rfl (.num 2) ⟨g,kk*48+42,none⟩ rfl);have BK:=h_ (∀ j,j<kk+1->(wr.setCell ⟨g,kk*48+42,none⟩ (i_ 2)).cell? ⟨g,j*48+42,none⟩=some (i_ 2)) (fun j hj=>by
   by_cases e:j=kk
   ·subst e;exact World.cell?_setCell_same _ _ _ BW
   rw [be_ _ _ _ _ (by intro e2;injection e2 with _ e2;omega)]
   exact Ab j o_)
  have Bz:=q_ (Ag.o.setCell (p:=⟨g,kk*48+42,none⟩) AC (i_ 2));have BX:=Bp (kk*48+42);clear hO Ab BQ Bp hv hm Bi B6 Ag;subst B1;go_wp2_with fail;go_roundw
  case rel=>exact ⟨kk+1,o_,by go_num,Bz,q_ (fun _=>⟨g,rfl,AC,BH.o,BK.o⟩)⟩
  case measure=>simp [intOf];omega
 case rest =>
 rename World=>w30
 obtain ⟨AP,AX⟩:=hcut;have AU:=q_ (A1.o.below AP.o);clear Ao Be A1 BG;go_wp2_with fail;go_loopw [134] (fun i wr=>∃ kk:Nat,kk<=n/\i=i_ kk/\Hid (Below w30 w30 wr)) (fun i _=>n - (intOf i).toNat)
 case atStart=>exact ⟨0,o_,rfl,q_ (b_)⟩
 obtain ⟨kk,hk,rfl,Ag⟩:=hrel;have As:=q_ (AU.o.below Ag.o);by_cases hkn:kk<n
 case neg =>
  have Am:¬(kk:Int)<(n:Int):=by omega
  go_wp2_with fail;go_ret;exact ⟨rfl,As.o.bel⟩
 case pos =>
 have Am:(kk:Int)<(n:Int):=by omega
 obtain ⟨g,B1,AC,hO,Ab⟩:=AX.o o_;subst B1;have Bj:=hO.below Ag.o;obtain ⟨l2,AD⟩:=tks_of (Bj.any o_);have AB:∀ (j:Nat) (t:Tk),l2[j]?=some t->t.status≠0/\t.status≠1:=fun j t ht=>by
  obtain ⟨ab,ao,e,BT,hc⟩:=AD.at_ o_;injection e with e;injection e with e1 e2;subst e1 e2;have hj:j<n:=by rw [←AD.len];exact (e_ ht).1
  have h1:=hc j t ht 42 _ t.c42;have h2:=(belc Ag.o (hO.addr o_ |> fun ⟨_,A8,_,h3,_⟩=>by injection A8 with A8;injection A8 with A8;subst A8;exact h3)).trans (Ab j hj);rw [Nat.zero_add,h2] at h1;injection h1 with h1;injection h1 with h1;omega
 obtain ⟨s2,Br⟩:∃ s2,l2[kk]?=some s2:=⟨_,ge_ (by rw [AD.len];exact hkn)⟩;have BF:=q_ AD;have BD:=q_ (waits_ended (ts:=ts) (k:=kk) (thr:=1+(r:Int)) (st:=s2.start) AB);have BI:=q_ Br;have q0:=As.o.q.2.1 0 _ rfl;clear hO Ab Bj AD AB Br;go_wp2_with fail;refine (waits_any QA ts.length qc ts (some (a_ g)) n dc l2 kk (1+(r:Int)) s2 wr As.o.pr As.o.good.1 (by have:=As.o.le;omega) BF.o o_ B5 BI.o o_).mono ?_;rintro e C3 ⟨rfl,AA⟩;rw [BD.o];have AQ:=q_ (Ag.o.trans (AA.mono Ag.o.size));clear AA q0;go_wp2_with fail;go_roundw
 case rel=>exact ⟨kk+1,o_,by go_num,AQ⟩
 case measure=>simp [intOf];omega
end Go.Proofs.YtfolidlmgfhkiaaGreat.Dl
namespace Go.Proofs.YtfolidlmgfhkiaaGreat
open Go.ChangeShapes Go.WideShapes Go.ChangeAt Go.RowKit Go.Deep
theorem Tryz.own:ownKnob Tryz.prog.godebug=none:=by kernel_rfl
theorem Tryz.laidOut:laidOutB Tryz.prog=true:=by kernel_rfl
section
variable {H:Type} {enc:TypeId × Value->H} {P:Program} {W W':World}
theorem trodAll_below (hl:laidOutB P=true) (hb:Below W W W'):∀ (ts:List TypeId) (vs:VL) (ds:List (DataW H)) (ps:List MemPlace),
  (∀ t ∈ ts,P.readableRec t=true/\t<P.types.size)->DataW.TrodAll enc P W 0 (fun _=>true) true ts vs ds ps->(∀ x ∈ ps,x.block<W) →
  DataW.TrodAll enc P W' 0 (fun b=>decide (b<W)) true ts vs ds ps
 | [],[],[],_,_,h,_=>h
 | t :: ts,v :: vs,d :: ds,ps,hr,h,hlt=>by
  obtain ⟨p,q,h1,h2,rfl⟩:=h;have A0:=hr t t_;exact ⟨p,q,Below.trod hl A0.1 A0.2 h1 hb (fun x hx=>hlt x (List.mem_append_left _ hx)),
   trodAll_below hl hb ts vs ds q (fun t ht=>hr t (by simp [ht])) h2 (fun x hx=>hlt x (List.mem_append_right _ hx)),rfl⟩
 | [],_ :: _,_,_,_,h,_=>h.elim
 | [],[],_ :: _,_,_,h,_=>h.elim
 | _ :: _,[],_,_,_,h,_=>h.elim
 | _ :: _,_ :: _,[],_,_,h,_=>h.elim
theorem law_post {fn:Func} {s:ChangeSpec} {args:Array Value} {ds:List (DataW H)} {before:List MemPlace} {tb:TypeId}
  (hl:laidOutB P=true) (hread:∀ t ∈ fn.params.toList,P.readableRec t=true/\t<P.types.size)
  (hW:DataW.Whole enc P fn.params.toList s.vars false W args.toList ds [] before) (hvars:s.vars=[])
  (hres:fn.resultTypes=#[tb]) (hub:P.underlying tb=some .bool)
  (hfn:s.fn H (ds ++ [])={ results:=[.lit (.bool true)],args:=ds }) (hb:Below W W W') :
  s.post enc P fn false true false false W args (.bool true) W':=by
 have A0:=hW;obtain ⟨p,q,hA,hV,rfl,_,_⟩:=hW;have A1:=A0.lt;rw [hvars] at hV;obtain ⟨_,rfl⟩:=trodVars_none hV;refine ⟨ds,[],_,[],p,[],A0,?_,?_,?_,hb.frame _,fun h=>by cases h⟩
 ·rw [hfn,hres];exact trodAll_mk1 (shut_bool hub true)
 ·rw [hfn];exact trodAll_below hl hb _ _ _ _ hread hA (fun x hx=>A1 x (List.mem_append_left _ hx))
 rw [hfn,hvars];rfl
theorem open_sl {α:Type} {cells:α->VL} {sz:Nat} {Ok:α->Prop} {t e:TypeId} {v:Value} {d:DataW H} {p:List MemPlace} {b0:Nat} (ht:P.underlying t=some (.slice e)) (hC:P.cellsOf e=sz) (hs:0<sz)
  (hval:Value.okWide P W .any b0 t v) (h:DataW.Trod enc P W 0 (fun _=>true) true t v d p)
  (hel:∀ n cs y,cs.length=sz->DataW.trod enc P W 0 (fun _=>true) true n e cs=some y->∃ x:α,cs=cells x/\Ok x) :
  ∃ A n c l,v=.slice A n c/\n<=c/\c<=9223372036854775807/\Sl W W sz cells A n l/\∀ x ∈ l,Ok x:=by
 obtain ⟨A,n,c,rfl⟩:=okWide_slice ht hval;obtain ⟨A5,hf⟩:=h;rcases open_slice ht hf with ⟨hcs,_⟩ | ⟨a,len,cap,m,k,D,Pl,hcs,_,hlc,hcm,hmm,_,hi⟩
 ·simp [Value.cells] at hcs;obtain ⟨rfl,rfl,rfl⟩:=hcs;exact ⟨none,0,0,[],rfl,l_,o_,Sl.nil,by simp⟩
 simp [Value.cells] at hcs;obtain ⟨rfl,rfl,rfl⟩:=hcs;simp only [if_true] at hmm;subst hmm;have Aa:∀ k',k'<=n->∃ l:List α,l.length=k'/\∀ (i:Nat) (x:α),l[i]?=some x->Ok x/\W.cells? 0 (a.add (i*sz)) sz=some (cells x):=by
  intro k'
  induction k' with
  | zero=>intro _;exact ⟨[],rfl,by simp⟩
  | succ k' ih =>
   intro Ag;obtain ⟨l,hl,A1⟩:=ih o_;obtain ⟨A4,h1,h2⟩:=hi k' o_;rw [hC] at h1;obtain ⟨_,A3,_⟩:=World.cells?_some h1;obtain ⟨x,rfl,Ad⟩:=hel k A4 _ A3 h2;refine ⟨l ++ [x],by simp [hl],fun i y hy=>?_⟩;by_cases hik:i<k'
   ·rw [List.getElem?_append_left o_] at hy;exact A1 i y hy
   have Ac:=(e_ hy).1;simp [hl] at Ac;obtain rfl:i=k':=by omega
   rw [List.getElem?_append_right o_,hl] at hy;simp at hy;subst hy;exact ⟨Ad,h1⟩
 obtain ⟨l,hl,A1⟩:=Aa n (l_);refine ⟨some a,_,_,l,rfl,hlc,by unfold maxLen at hcm;omega,⟨hl,fun hn=>?_⟩,fun x hx=>?_⟩
 ·have A0:∀ (i:Nat) (x:α),l[i]?=some x->∀ (j:Nat) (u:Value),(cells x)[j]?=some u->W.cell? ((a.add (i*sz)).add j)=some u:=fun i x hx j u hu=>by
   obtain ⟨_,h1⟩:=A1 i x hx;obtain ⟨_,A3,A7⟩:=World.cells?_some h1;have hj:=(e_ hu).1;rw [A7 j o_];exact hu
  have h0:0<l.length:=by omega
  obtain ⟨Ae,A8⟩:=A1 0 _ (ge_ h0);obtain ⟨_,A9,_⟩:=World.cells?_some A8;have hz:=A0 0 _ (ge_ h0) 0 _ (ge_ o_);have A6:(a.add (0*sz)).add 0=a:=by simp [Addr.add]
  rw [A6] at hz;obtain ⟨ab,ao,A2⟩:=a;have Af:A2=none:=by
   cases A2 with
   | none=>rfl
   | some _=>unfold World.cell? at hz;simp at hz;split at hz <;> simp at hz
  subst Af;refine ⟨ab,ao,rfl,World.block_lt_of_cell? W _ hz,fun i x hx j u hu=>?_⟩;have h:=A0 i x hx j u hu;rw [Addr.add_lit,Addr.add_lit] at h
  rwa [Nat.add_assoc] at h
 obtain ⟨i,Ab⟩:=List.getElem?_of_mem hx;exact (A1 i x Ab).1
theorem args_of {args:Array Value} {l:VL} (h:args.toList=l):args=l.toArray:=by rw [←h]
theorem wf_i64 {n:Int} (h:(Lit.int .i64 n).wf=true):-9223372036854775808<=n/\n<=9223372036854775807:=by
 have h1:IntKind.i64.min=-9223372036854775808:=rfl;have h2:IntKind.i64.max=9223372036854775807:=rfl;simp only [Lit.wf,Bool.and_eq_true,decide_eq_true_eq] at h;omega
theorem wf_u8 {n:Int} (h:(Lit.int .u8 n).wf=true):0<=n/\n<=255:=by
 have h1:IntKind.u8.min=0:=rfl;have h2:IntKind.u8.max=255:=rfl;simp only [Lit.wf,Bool.and_eq_true,decide_eq_true_eq] at h;omega
end
section
variable {H:Type} {enc:TypeId × Value->H} {W:World}
theorem el_byte {sp:Nat->Bool}:∀ n cs y,cs.length=1->DataW.trod enc Tryz.prog W 0 sp true n 5 cs=some y->∃ x:Int,cs=byteCells x/\(0<=x/\x<=255):=by
 intro n cs y _ h;obtain ⟨x,rfl,_,hw⟩:=DataW.trod_int Tryz.underlying5 h;exact ⟨x,rfl,wf_u8 hw⟩
end
theorem read_delayEnds:∀ t ∈ Tryz.f6.params.toList,Tryz.prog.readableRec t=true/\t<Tryz.prog.types.size:=by
 have h:(Tryz.f6.params.toList.all fun t=>Tryz.prog.readableRec t && decide (t<Tryz.prog.types.size))=true:=by kernel_rfl
 intro t ht;have:=List.all_eq_true.1 h t ht
 simpa using this
theorem delayEnds_lifted (os:Os) (started:os.Started) (H:Type) (enc:TypeId × Value->H) :
  ReturnsInHanded {} Tryz.checked os 6 .any (Rows.delayEndsSpec.pre6 enc Tryz.prog Tryz.f6 Rows.delayEndsRow.domain false) (Rows.delayEndsSpec.post enc Tryz.prog Tryz.f6 false true false false):=by
 refine returnsInHanded_of_change (C:=Tryz.checked) Tryz.own started k_ Tryz.func6
  (ChangeSpec.witness6 (enc:=enc) (C:=Tryz.checked) false ⟨#[],#[.slice none 0 0,i_ 0],[]⟩ 8 k_ k_ k_ k_) ?_
 intro W A5 A3 ds gs A6 A2 hW _ _;have A1:∀ (j:Nat) t v,Tryz.f6.params[j]?=some t->A3[j]?=some v->Value.okWide Tryz.prog W .any A5 t v:=A2;have A9:=hW;obtain ⟨p,q,A8,hV,rfl,_,_⟩:=hW;have hA:DataW.TrodAll enc Tryz.prog W 0 (fun _=>true) true Tryz.f6.params.toList A3.toList ds p:=A8;rw [Tryz.params6] at hA A1;obtain ⟨v0,Af,d0,Ac,p0,q0,A4,rfl,rfl,h0,r0⟩:=trodAll_cons hA;obtain ⟨v1,Ag,d1,Ad,p1,q1,rfl,rfl,rfl,h1,r1⟩:=trodAll_cons r0;obtain ⟨rfl,rfl,rfl⟩:=trodAll_nil r1;obtain rfl:=args_of A4;obtain ⟨rfl,rfl⟩:=trodVars_none hV;obtain ⟨A0,n0,c0,l0,rfl,Aa,Ae,Ab,A7⟩:=open_sl Tryz.underlying22 k_ d_ (A1 0 22 v0 rfl rfl) h0 el_byte;obtain ⟨k1,rfl,rfl,rfl,w1⟩:=open_int Tryz.underlying3 (A1 1 3 v1 rfl rfl) h1;clear A8 A2 A1 h0 h1;refine (Dl.ends_any A0 n0 c0 l0 k1 W Ab (fun i x hi=>A7 x (List.mem_of_getElem? hi)) Aa o_ o_ (wf_i64 w1)).mono fun e W' ⟨he,hw⟩=>?_
 subst he;exact ⟨_,rfl,law_post Tryz.laidOut read_delayEnds A9 rfl rfl Tryz.underlying4 rfl hw⟩
theorem delayEnds_holds:Rows.DelayEndsSaid :=
 OpenClaim.holds_of_wide 6 Tryz.f6 rfl rfl rfl rfl rfl rfl rfl ⟨rfl,rfl,rfl,rfl,rfl⟩ rfl rfl rfl rfl rfl k_ Tryz.func6 k_
  (of_decide_eq_true k_) (by unfold Func.isWrapper;first | (rw [if_pos (by decide +kernel)];kernel_rfl) | (rw [if_neg (by decide +kernel)];exact ⟨rfl,rfl⟩))
  (fun os A0 H A1 _=>delayEnds_lifted os A0 H A1)
end Go.Proofs.YtfolidlmgfhkiaaGreat
