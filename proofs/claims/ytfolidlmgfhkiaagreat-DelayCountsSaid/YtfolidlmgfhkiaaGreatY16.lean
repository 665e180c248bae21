/- Lemmas on functions of the program, under the conditions that each states. -/
import Derived.Test.YtfolidlmgfhkiaaGreatY15
import Derived.Maps.Own
set_option linter.unusedVariables false
set_option linter.unusedSimpArgs false
set_option maxRecDepth 100000
set_option maxHeartbeats 8000000
namespace Go.Proofs.YtfolidlmgfhkiaaGreat
open Go.RowKit Go.Proofs.Tryz
theorem settle_t (X:NP) (K:Nat) (A:OA) (n c:Nat) (L:Nat) (vs:VL) (id f:Int) (w:World) (h:SlT w X K objT A n c) (hK:K<=1000000000) (ht:VTs w X L af_ vs) (hL:L<=100000000) (hX:∀ k,X k->k<w) :
  Calls prog 141 #[.agg vs.toArray,.agg #[.slice A n c],i_ id,i_ f] w fun e w'=>RATk X (L+2) af_ .tru vs e w'/\Below w w w':=by
 obtain ⟨W,Y,C,hW,hz,U,F,c0,c1,c2⟩:=Fr.start3 hX (L+1) af_ vs 65 (ht.up (Kp.refl _ _) (Nat.le_succ L)) K [.sl objT] [.slice A n c] 35 (vts1 h) (L+2) af_ zl1 65 (bb_ _ af_);have HF:=q_ F;have HH:=q_ (h.go U (l_));have HT:=h_ (VTs W Y L af_ (C w)) w8_;have BT:=q_ (F.box (i:=2) rfl);have IT:=q_ (F.info (i:=2) rfl av_);have x1:=F.cell (i:=1) rfl (j:=0) (by rw [c1];rfl);have C1:=q_ c1;have Ac:=q_ c0;clear F h ht hX U c0 c1 c2;go_enter func141,ntmps141;go_upto_region 1 with fail;rw [<-hW];clear hW;go_wp2_with (with_reducible refine ac_ rfl 65 (.tmp 4) rfl _ underlying65 rfl v_ BT.o.whole IT.o ?_);refine (delta_t Y L (C w) id f W HT.o o_).mono ?_;rintro e V ⟨⟨m,hm,⟨A1,c4,Ap⟩,⟨q,rfl,hq⟩⟩,hV⟩;have FV:=q_ (HF.o.call hV);have TV:=q_ (HT.o.go (Up.of_below hV) (l_));have HV:=q_ (HH.o.go (Up.of_below hV) (l_));have x2:=FV.o.cell (i:=1) rfl (j:=0) (by rw [C1.o];rfl);clear hV x1;by_cases hneg:q<0
 ·clear hq;go_upto_region 3 with fail;have BT:=q_ (FV.o.box (i:=2) rfl);have BR:=q_ (FV.o.box (i:=0) rfl);have LR:=q_ (FV.o.len (i:=0) rfl);go_wp2_with (first | (with_reducible refine ac_ rfl 65 (.tmp 4) rfl _ underlying65 rfl v_ BT.o.whole IT.o ?_) | (with_reducible refine ab_ rfl 65 (.tmp 8) (.tmp 21) rfl (C w) w_ v_ (BR.o.aj_ LR.o (Nat.le_of_eq TV.o.len)) IT.o TV.o.one ?_));obtain ⟨F',_⟩:=FV.o.sets (i:=0) rfl (TV.o.up (Kp.refl _ _) (Nat.le_add_right L 2));refine ce_ results141 zc_ underlying65 rfl (F'.info (i:=0) rfl av_) (F'.box (i:=0) rfl).whole rfl ?_;exact F'.ratk (i:=0) rfl (.tru _) (by rw [upd_same,Ac.o];exact KT.refl _)
 obtain ⟨k,hk,rfl⟩:∃ k:Nat,k<m/\q=(k:Int):=by
  rcases hq.o with h | h
  ·omega
  exact h
 clear hq;have BT:=q_ (FV.o.box (i:=2) rfl);go_upto_region 4 with fail;go_wp2_with (with_reducible refine ac_ rfl 65 (.tmp 4) rfl _ underlying65 rfl v_ BT.o.whole IT.o ?_);refine (before_t Y K A n c L (C w) V HV.o o_ TV.o o_ FV.o.lt).mono ?_;rintro e S ⟨⟨A2,n2,c2,rfl,Al⟩,hS⟩;have FS:=q_ (FV.o.call hS);have US:=q_ (Up.of_below hS (Y:=Y));clear hS x2;go_wp2_with fail;refine (Read_t Y K A2 n2 c2 id f S Al.o o_).mono ?_;rintro e R ⟨⟨v,b,rfl⟩,hR⟩;have FR:=q_ (FS.o.call hR);have UR:=q_ (US.o.trans (Up.of_below hR (Y:=Y)));clear hR Al;obtain ⟨P,Y2,C2,hP,AH,Ao,FP,cP,cO⟩:=FR.o.add1 0 valT [.bool v.ref,i_ v.n] 38 (vtsval _ _);have zR:=FR.o.blt (i:=2) rfl;have AW:=FR.o.blt (i:=0) rfl;have UP:=q_ (UR.o.trans Ao);have A7:=q_ FP;have e2:C2 w=C w:=cO _ o_;have TP:=h_ (VTs P Y2 L af_ (C2 w)) (by rw [e2];exact TV.o.go UP.o (l_));have IP:=q_ (FP.info (i:=3) rfl av_);have Ai:=q_ cP;have As:=h_ (C2 (w+1)=[.slice A n c]) (by rw [cO _ (by have:=FR.o.blt (i:=1) rfl;omega)];exact C1.o);have p0:=FP.cell (i:=0) rfl (j:=0) (by rw [cP];rfl);have p1:=FP.cell (i:=0) rfl (j:=1) (by rw [cP];rfl);have Ax:=q_ Ap;have E2:=q_ e2;clear Ao FP cP cO AH Ap e2;go_upto_region 5 with fail;rw [<-hP];clear hP;have BP:=q_ (A7.o.box (i:=3) rfl);have BR:=q_ (A7.o.box (i:=1) rfl);have LR:=q_ (A7.o.len (i:=1) rfl);have x3:=A7.o.cell (i:=2) rfl (j:=0) (by rw [As.o];rfl);obtain ⟨vr,vn⟩:=v;cases b
 ·go_wp2_with (first | (with_reducible refine ac_ rfl 65 (.tmp 4) rfl _ underlying65 rfl v_ BP.o.whole IP.o ?_) | (with_reducible refine ab_ rfl 65 (.tmp 8) (.tmp 37) rfl (C2 w) w_ v_ (BR.o.aj_ LR.o (Nat.le_of_eq TP.o.len)) IP.o TP.o.one ?_));exact ua_
 cases vr
 ·go_wp2_with (with_reducible refine ac_ rfl 65 (.tmp 4) rfl _ underlying65 rfl v_ BP.o.whole IP.o ?_);refine (Visible_t Y2 K A n c L (C2 w) P (HV.o.go UP.o (l_)) o_ TP.o o_ A7.o.lt).mono ?_;rintro e S ⟨⟨A3,n3,c3,rfl,Am⟩,hS⟩;have Au:=q_ (A7.o.call hS);clear x3 p0 p1;go_wp2_with fail;refine (Read_t Y2 (K+2*L) A3 n3 c3 id f S Am.o o_).mono ?_;rintro e Q ⟨⟨v2,b2,rfl⟩,hQ⟩;have Aj:=q_ (hS.trans (hQ.mono hS.size));have FQ:=q_ (Au.o.call hQ);clear hQ Am hS;obtain ⟨O,Y3,C3,hO,AG,Ag,FO,cP,cO⟩:=FQ.o.add1 0 valT [.bool v2.ref,i_ v2.n] 38 (vtsval _ _);have zQ:=FQ.o.blt (i:=3) rfl;have AV:=FQ.o.blt (i:=0) rfl;have A8:=q_ FO;have q0:=A8.o.cell (i:=1) rfl (j:=0) (by rw [cO _ o_,Ai.o];rfl);have q1:=A8.o.cell (i:=1) rfl (j:=1) (by rw [cO _ o_,Ai.o];rfl);have u3:=q_ ((UP.o.trans (show Up P Y2 Q Y2 from .of_below (Aj.o))).trans Ag);have e3:C3 w=C2 w:=cO _ o_;have TO:=h_ (VTs O Y3 L af_ (C3 w)) (by rw [e3];exact (TP.o.go (.of_below Aj.o) (l_)).go Ag (l_));have O2:=h_ (C3 (Q:Nat)=_) cP;obtain ⟨RA,rn,rc,Af,HR⟩:=TO.o.slc (j:=37) (e:=aq_) rfl;obtain ⟨DA,dn,dc,A0,HD⟩:=TO.o.slc (j:=40) (e:=bn_) rfl;have AJ:dn=m:=by
   rw [e3,E2.o,Ax.o] at A0;injection A0 with A0;injection A0 with _ A0 _;exact A0.symm
  subst AJ;have AL:=A8.o.cell (i:=4) rfl Af;have AE:=A8.o.fz (i:=4) rfl;have H4:=q_ A0;have Av:=q_ Af;have AA:=q_ HR;have Ae:=q_ HD;have E3:=q_ e3;clear Ag FO cP cO AG Af A0 HR HD e3;go_upto_region 8 with fail;rw [<-hO];clear hO;go_wp2_with fail;refine (put_t Y3 L RA rn rc ⟨id,f,false,vn⟩ O AA.o o_ A8.o.lt).mono ?_;rintro e T ⟨⟨A5,n5,c5,rfl,An⟩,hT⟩;have Ab:=H4.o;have FT:=A8.o.call hT;obtain ⟨A4,Ar⟩:=FT.set (i:=4) (j:=37) (t:=.sl aq_) rfl rfl rfl An.o.vt;have AM:=FT.fz (i:=4) rfl;have AN:=FT.cell (i:=4) rfl Av.o;have uM:=(Up.of_below hT (Y:=Y3)).trans Ar;clear hT AL AE Ab;go_upto_region 9 with fail;clear AM AN;obtain ⟨M,hM⟩:=ex_ (T.setCell (f_ w 37) (.slice A5 n5 c5));obtain ⟨C4,A9⟩:=ex_ (upd C3 w ((C3 w).set 37 (.slice A5 n5 c5)));rw [<-hM,<-A9] at A4;rw [<-hM] at uM ⊢;have A0:(C4 w)[40]?=some (.slice DA dn dc):=by rw [A9,upd_same,gs_,if_neg d_];exact H4.o
  have Ad:C4 Q=C3 Q:=by rw [A9];exact ad_ _ _ o_
  have Ay:=q_ (Ae.o.go uM (Nat.le_refl L));have HM:=q_ A4;have AO:=A4.cell (i:=4) rfl A0;have AF:=A4.fz (i:=4) rfl;have TM:=h_ (VTs M Y3 (L+1) af_ (C4 w)) (A4.whole (i:=4) rfl);have q0:=A4.cell (i:=0) rfl (j:=0) (by rw [Ad,O2.o];rfl);have q1:=A4.cell (i:=0) rfl (j:=1) (by rw [Ad,O2.o];rfl);have Aw:=q_ A0;have AR:=Ae.o.cap;have AQ:=Ae.o.le;have AU:IntKind.i64.wrap ((k:Int)+1)=(k:Int)+1:=by rw [IntKind.wrap_i64];omega
  have AS:∀ w',(Instr.slice 63 (.slice DA dn dc) none (some (i_ (k:Int))) (some (i_ (k:Int)))).run prog w'=.ok (.slice DA k k) w':=by_.high3 o_;have AT:∀ w',(Instr.slice 63 (.slice DA dn dc) (some (i_ ((k:Int)+1))) none none).run prog w'=.ok (.slice (cutA DA dc (k+1) 5) (dn - (k+1)) (dc - (k+1))) w':=fun w'=>by_.low (k:=k+1) o_ w'
  have HL:=q_ HM.o.lt;have HQ:=h_ ((C4 Q)[0]?=some (.bool v2.ref)/\(C4 Q)[1]?=some (i_ v2.n)) (by rw [Ad,O2.o];exact ⟨rfl,rfl⟩);have AC:=h_ (KT vs (C4 w)) (by rw [A9,upd_same,E3.o,E2.o,Ac.o];exact KT.set _ _ _ ⟨d_,d_⟩);clear hM A9 uM A4 Ar FT An Ad A0;have Ak:=h_ (∀ w',Below M M w'->SlT w' Y3 L bn_ DA dn dc) (fun w' hb=>Ay.o.go (.of_below hb) (l_));go_region_law (refine cg_ rfl (.tmp 59) (.tmp 64) rfl by_ Y3 L DA k k v_ ((Ak.o _ (Below.drew (b_))).take o_ k (l_) o_) (cutA DA dc (k+1) 5) (dn - (k+1)) (dc - (k+1)) zw_ ((Ak.o _ (Below.drew (b_))).drop o_) o_ (fun q hq=>HL.o q hq) o_ m_ o_ ?_;intro A6 c6 w6 Aq AI;have F6:=HM.o.drew.call AI;have Az:=q_ F6;have AB:=q_ Aq;have f6:=F6.fz (i:=4) rfl;have AP:=F6.cell (i:=4) rfl Aw.out;clear F6 Aq AO AF q0 q1);all_goals
   obtain ⟨F7,u7⟩:=Az.o.set (i:=4) (j:=40) (t:=.sl bn_) rfl rfl rfl (AB.o.up (Kp.refl _ _) (Nat.le_succ L)).vt;obtain ⟨N,hN⟩:=ex_ (w6.setCell (f_ w 40) (.slice A6 (k+(dn - (k+1))) c6));obtain ⟨C5,Aa⟩:=ex_ (upd C4 w ((C4 w).set 40 (.slice A6 (k+(dn - (k+1))) c6)));rw [<-hN,<-Aa] at F7;rw [<-hN];have q0:=F7.cell (i:=0) rfl (j:=0) (by rw [Aa,ad_ _ _ o_];exact HQ.o.1);have q1:=F7.cell (i:=0) rfl (j:=1) (by rw [Aa,ad_ _ _ o_];exact HQ.o.2);have TN:=h_ (VTs N Y3 (L+1) af_ (C5 w)) (F7.whole (i:=4) rfl);have BN:=q_ (F7.box (i:=4) rfl);have IN:=q_ (F7.info (i:=4) rfl av_);have HN:=q_ F7;have AD:=h_ (KT vs (C5 w)) (by rw [Aa,upd_same];exact AC.o.trans (KT.set _ _ _ ⟨d_,d_⟩));clear hN Aa F7 u7 AP f6;go_wp2_with (with_reducible refine ac_ rfl 65 (.tmp 4) rfl _ underlying65 rfl v_ BN.o.whole IN.o ?_);refine (write_t Y3 (L+1) (C5 w) ⟨id,f,v2.ref,v2.n⟩ N TN.o o_ HN.o.lt).mono ?_;rintro e Z ⟨⟨zs,rfl,Ah,AK⟩,hZ⟩;have FZ:=q_ (HN.o.call hZ);have BR:=q_ (FZ.o.box (i:=2) rfl);have LR:=q_ (FZ.o.len (i:=2) rfl);have TZ:=q_ Ah;have IZ:=h_ ((prog.info? 65).map (·.size)=some zs.length) (by rw [Ah.1];exact av_);clear hZ Ah q0 q1;go_wp2_with (with_reducible refine ab_ rfl 65 (.tmp 8) (.tmp 72) rfl (zs) w_ v_ (BR.o.aj_ LR.o (Nat.le_of_eq TZ.o.len)) IZ.o TZ.o.one ?_);obtain ⟨F',_⟩:=FZ.o.sets (i:=2) rfl TZ.o;refine ce_ results141 zc_ underlying65 rfl (F'.info (i:=2) rfl av_) (F'.box (i:=2) rfl).whole rfl ?_;exact F'.ratk (i:=2) rfl (.tru _) (by rw [upd_same];exact AD.o.trans AK.o)
 go_wp2_with (first | (with_reducible refine ac_ rfl 65 (.tmp 4) rfl _ underlying65 rfl v_ BP.o.whole IP.o ?_) | (with_reducible refine ab_ rfl 65 (.tmp 8) (.tmp 37) rfl (C2 w) w_ v_ (BR.o.aj_ LR.o (Nat.le_of_eq TP.o.len)) IP.o TP.o.one ?_));exact ua_
theorem Get_t (X:NP) (K:Nat) (A:OA) (n c:Nat) (id:Int) (w:World) (h:SlT w X K objT A n c) (hK:K<=8796093021952) :
  Calls prog 133 #[.agg #[.slice A n c],i_ id] w fun e w'=>(∃ (i:Int) (A':OA) (n' c':Nat) (b:Bool),e=.returned (.tuple #[.agg #[i_ i,.slice A' n' c'],.bool b]))/\Below w w w':=by
 obtain ⟨l,hl,_⟩:=h.hp hK;refine (refget_any A n c l id w hl (by have:=h.le;omega)).mono ?_;rintro e w' ⟨A',n',c',rfl,_,_,_,hb⟩;exact ⟨⟨_,_,_,_,_,rfl⟩,hb⟩
theorem Mv.upd81 {l:List In} {pc:Int} {vs us:VL} {bk nb:Bool} (h81:vs[81]?=some (.bool bk)) (hm:Mv l pc vs) (e38:us[38]?=vs[38]?) (e39:us[39]?=vs[39]?) (e81:us[81]?=some (.bool nb)) (hb:bk=true->nb=true):Mv l pc us:=fun kd p h1 h2 h3=>by
 rw [e38] at h1;rw [e39] at h2;rw [e81] at h3;injection h3 with h3;injection h3 with h3;subst h3;cases bk
 ·exact hm kd p h1 h2 h81
 cases hb rfl
theorem OneS.set81 {X Z Y:NP} {w0 w:World} {LL:List LV} {b K L:Nat} {l:List In} {pc:Int} {C:Nat->VL} {bk:Bool} (h:OneS X Z w0 LL b K L l pc Y C w) (h81:(C b)[81]?=some (.bool bk)) (nb:Bool) (hb:bk=true->nb=true):Ms X Z w0 LL b K L l pc Y C w (w.setCell (f_ b 81) (.bool nb)) (fun j=>j≠81):=by
 obtain ⟨f,u⟩:=h.fr.set (i:=0) (j:=81) (t:=.tru) (v:=.bool nb) rfl rfl rfl (.tru _);refine ⟨Y,_,h.go f u (fun j hj=>?_) (fun hm=>hm.upd81 h81 ?_ ?_ ?_ hb),u,fun q hq _=>ad_ _ _ hq,fun j hj=>?_⟩
 ·rw [upd_same,gs_,if_neg o_]
 ·rw [upd_same,gs_,if_neg o_]
 ·rw [upd_same,gs_,if_neg o_]
 ·rw [upd_same,gs_,if_pos rfl,if_pos (by have:=h.fr.len (i:=0) rfl;rw [this];decide)]
 rw [upd_same,gs_,if_neg (fun e=>hj e.symm)]
theorem Ms.after {X Z Y:NP} {w0 w w1 w':World} {LL:List LV} {b K L:Nat} {l:List In} {pc:Int} {C:Nat->VL} {J:NP} (hb:Below w w w1) (h:Ms X Z w0 LL b K L l pc Y C w1 w' J):Ms X Z w0 LL b K L l pc Y C w w' J:=by
 obtain ⟨Y',C',h1,h2,h3,h4⟩:=h;exact ⟨Y',C',h1,(Up.of_below hb).trans h2,fun q hq A0=>h3 q hq (lt_ A0 hb.size),h4⟩
theorem root_m {X Z Y:NP} {w0:World} {LL:List LV} {b K L:Nat} {l:List In} {pc:Int} {C:Nat->VL} (w:World) (h:OneS X Z w0 LL b K L l pc Y C w) (hK:K<=1000000000) :
  Calls prog 122 #[.pointer (some (a_ b))] w fun e w'=>e=.returned (.tuple #[])/\Ms X Z w0 LL b K L l pc Y C w w' (fun j=>j≠81):=by
 obtain ⟨HA,hn,hc,A5,hH,A3⟩:=h.fr.slc (i:=0) rfl (j:=36) (e:=objT) rfl rfl;have HH:=h_ (SlT w Y K objT HA hn hc) hH;have HS:=q_ h;clear h hH A3;go_enter func122,ntmps122;go_wp2_with fail;refine (Get_t Y K HA hn hc 1 w HH.o o_).mono ?_;rintro e S ⟨⟨oi,oA,on,oc,ob,rfl⟩,hS⟩;obtain ⟨V,hV,A2,A4,V0⟩:=ag_ S [i_ oi,.slice oA on oc] 90;have HB:=q_ (hS.trans (A2.mono hS.size));have v0:=V0.2.1 0 _ rfl;have v1:=V0.2.1 1 _ rfl;have HV:=q_ (HS.o.call HB.o);obtain ⟨bk,A6,A1⟩:=HV.o.fr.tru (i:=0) rfl (j:=81) rfl rfl;have A0:=q_ A1;have fb:=HV.o.fr.fz (i:=0) rfl;clear hS A2 A4 V0 A5 A1;go_upto_region 1 with fail;rw [<-hV];clear hV;cases bk
 ·go_wp2;all_goals
   refine end0 zc_ rfl ?_;exact ⟨rfl,Ms.after HB.o (HV.o.set81 A0.o _ x_)⟩
 go_wp2;all_goals
  refine end0 zc_ rfl ?_;exact ⟨rfl,Ms.after HB.o (HV.o.set81 A0.o _ (fun _=>rfl))⟩
theorem frame_m {X Z Y:NP} {w0:World} {LL:List LV} {b K L:Nat} {l:List In} {pc:Int} {C:Nat->VL} (w:World) (h:OneS X Z w0 LL b K L l pc Y C w) (hK:K<=1000000000) (hL:L<=100000) :
  Calls prog 171 #[.pointer (some (a_ b))] w fun e w'=>(∃ f n:Int,e=.returned (.tuple #[i_ f,i_ n]))/\Ms X Z w0 LL b K (L+1) l pc Y C w w' (fun j=>j≠72/\j≠81):=by
 have HS:=q_ h;clear h;go_enter func171,ntmps171;go_wp2_with fail;refine (root_m w HS.o hK).mono ?_;rintro e W1 ⟨rfl,Y1,C1,h1,u1,q1,j1⟩;have H1:=q_ h1;have U1:=q_ u1;have Q1:=q_ q1;have J1:=q_ j1;obtain ⟨bk,A4,_⟩:=h1.fr.tru (i:=0) rfl (j:=81) rfl rfl;clear h1 u1 q1 j1;cases bk
 case true =>
  go_wp2;refine bodyPost_ret (results_tmp2 zc_ _ _ _) rfl ?_;exact ⟨⟨_,_,rfl⟩,Y1,C1,H1.o.raise (Nat.le_succ L),U1.o,Q1.o,fun j hj=>J1.o j hj.2⟩
 go_wp2_with fail;refine (dx_ W1 H1.o hK hL 1 0).mono ?_;rintro e W2 ⟨⟨v,rfl⟩,Y2,C2,h2,u2,q2,j2⟩;obtain ⟨V,hV,A3,A9,V0⟩:=ag_ W2 [.bool v.ref,i_ v.n] 38;have H2:=q_ (h2.call A3);have U2:=q_ ((U1.o.trans u2).trans (Up.of_below A3));have Q2:=h_ (∀ q,q≠b->q<w->C2 q=C q) (fun q hq A1=>(q2 q hq (lt_ A1 U1.o.kp.size)).trans (Q1.o q hq A1));have J2:=h_ (∀ j,(j≠72/\j≠81)->(C2 b)[j]?=(C b)[j]?) (fun j hj=>(j2 j hj).trans (J1.o j hj.2));have Ad:b<W2:=h2.fr.blt (i:=0) rfl;obtain ⟨HA,hn,hc,Ac,hH,_⟩:=H2.o.fr.slc (i:=0) rfl (j:=36) (e:=objT) rfl rfl;have HH:=h_ (SlT V Y2 K objT HA hn hc) hH;have A6:=q_ V0;have v0:=V0.2.1 0 _ rfl;have v1:=V0.2.1 1 _ rfl;have Ag:(W2:Nat)<V:=by omega
 have Aa:b<V:=by omega
 have KH:=h_ (∀ w',Below V V w'->SlT w' Y2 K objT HA hn hc) (fun w' hb=>HH.o.go (.of_below hb) (l_));have A5:=h_ (Below V V V.drew) (Below.drew (b_));have A2:=h_ (Below V V (V.drew.alloc (.cells #[i_ 0,.slice none 0 0] 90))) ((Below.drew (b_)).alloc (l_) _);have HZ:=h_ (Bx (V.drew.alloc (.cells #[i_ 0,.slice none 0 0] 90)) V [i_ 0,.slice none 0 0]) (Bx.new V.drew [i_ 0,.slice none 0 0] 90);clear h2 u2 q2 j2 A3 A9 V0 hH A4;go_upto_region 5 with fail;rw [<-hV];clear hV;go_cut [5,6] (fun p ok wx=>∃ (q:Nat) (oi:Int) (oA:OA) (on oc:Nat) (ob:Bool),p=.pointer (some (a_ q))/\ok=.bool ob/\V<=q/\Hid (Bx wx q [i_ oi,.slice oA on oc])/\Hid (Below V V wx))
 case first =>
  go_region_law (first
   | (go_simp;go_at_call 133;refine (Get_t Y2 K HA hn hc v.n V.drew (KH.o _ A5.o) o_).mono ?_;rintro e S ⟨⟨oi,oA,on,oc,ob,rfl⟩,hS⟩;have BS:=h_ (Below V V S) (A5.o.trans hS);clear hS)
   | (go_simp;go_at_call 133;refine (Get_t Y2 K HA hn hc v.n (V.drew.alloc (.cells #[.int .i64 0,.slice none 0 0] 90)) (KH.o _ A2.o) o_).mono ?_;rintro e S ⟨⟨oi,oA,on,oc,ob,rfl⟩,hS⟩;have BS:=h_ (Below V V S) (A2.o.trans (hS.mono A2.o.size));have BZ:=q_ (HZ.o.below hS);have z0:=BZ.o.2.1 0 _ rfl;have z1:=BZ.o.2.1 1 _ rfl;have zf:=BZ.o.2.2;clear hS))
  all_goals
   go_wp2_with fail;go_meet;first
    | exact ⟨_,oi,oA,on,oc,ob,rfl,rfl,BS.o.size,q_ (Bx.new S [.int .i64 oi,.slice oA on oc] _),q_ (BS.o.alloc BS.o.size _)⟩
    | exact ⟨V,oi,oA,on,oc,ob,rfl,rfl,l_,q_ ((BZ.o.set 0 _).set 1 _),q_ ((BS.o.setCell (l_) _).setCell (l_) _)⟩
 obtain ⟨q,oi,oA,on,oc,ob,rfl,rfl,hq,hB,A0⟩:=hcut;have H3:=q_ (H2.o.call A0.o);have y0:=(A6.o.below A0.o).2.1 0 _ rfl;have y1:=(A6.o.below A0.o).2.1 1 _ rfl;have b0:=hB.o.2.1 0 _ rfl;have b1:=hB.o.2.1 1 _ rfl;obtain ⟨bk,A4,A7⟩:=H3.o.fr.tru (i:=0) rfl (j:=81) rfl rfl;have A8:=q_ A7;have fb:=H3.o.fr.fz (i:=0) rfl;have Ae:q≠b:=by omega
 have Af:W2≠b:=by omega
 clear A7 v0 v1 Ac;obtain ⟨vr,vn⟩:=v;go_upto_region 6 with fail;go_cut [] (fun wx=>∃ nb:Bool,Hid (bk=true->nb=true)/\wx=wc.setCell (f_ b 81) (.bool nb))
 case first =>
  cases bk <;> cases ob <;> cases vr
  all_goals
   go_wp2_with fail;all_goals
    go_meet;first
     | exact ⟨_,q_ (fun _=>rfl),rfl⟩
     | exact ⟨_,q_ (fun h=>nomatch h),rfl⟩
 obtain ⟨nb,Ab,rfl⟩:=hcut;have M:=q_ (H3.o.set81 A8.o nb Ab.o);clear A4 fb;go_wp2_with fail;go_quiet (fail);go_wp2;refine bodyPost_ret (results_tmp2 zc_ _ _ _) rfl ?_;obtain ⟨Y4,C4,h4,u4,q4,j4⟩:=M.o;exact ⟨⟨_,_,rfl⟩,Y4,C4,h4.call (below_drewN (b_) _),((U2.o.trans (.of_below A0.o)).trans u4).drewN _,fun q hq A1=>(q4 q hq (lt_ A1 (U2.o.trans (.of_below A0.o)).kp.size)).trans (Q2.o q hq A1),fun j hj=>(j4 j hj.2).trans (J2.o j hj)⟩
theorem wpList_put {P:Program} {w w':World} {ops:Array Oper} {rest:List Oper} {o:Oper} {a:Act} {Q:Exit->Act->World->Prop} (hg:o.guard=none) (m x v:Operand) (t:TypeId) (hop:o.op=Op.mapUpdate t m x v) (vm vx vv:Value) (hm:a.eval m=vm) (hx:a.eval x=vx) (hv:a.eval v=vv)
  (hr:(Instr.mapUpdate t vm vx vv).run P w=.ok () w') (h:wpList P ops Q rest (a.put o.dst undef) w'):wpList P ops Q (o :: rest) a w:=by
 refine wpList_plain hg fun K' A0=>?_
 unfold Oper.wp;simp [execOp,hop,hm,hx,hv,hr,Result.andThen];exact A0 _ _ h
theorem Check_t (X:NP) (K:Nat) (A:OA) (n c:Nat) (L:Nat) (vs:VL) (w:World) (h:SlT w X K objT A n c) (hK:K<=4398046510976) (ht:VTs w X L af_ vs) (hL:L<=4398046510976) :
  Calls prog 82 #[.agg #[.slice A n c],.agg vs.toArray] w fun e w'=>RN e/\Below w w w':=by
 obtain ⟨W,hW,A3,AH,B0,B1⟩:=cn_ w [.slice A n c] 35 vs 65;obtain ⟨st,Am⟩:=ht.num (j:=42) rfl;obtain ⟨DA,dn,dc,Al,hd⟩:=ht.slc (j:=40) (e:=bn_) rfl;obtain ⟨NA,nn,nc,Ak,Au⟩:=ht.slc (j:=39) (e:=objT) rfl;obtain ⟨WA,wn,wc,Aj,Av⟩:=ht.slc (j:=38) (e:=aq_) rfl;have H:=q_ (h.up (Kp.of_below A3) (l_));have HT:=q_ (ht.up (Kp.of_below A3) (l_));have HD:=q_ (hd.up (Kp.of_below A3) (l_));have HN:=q_ (Au.up (Kp.of_below A3) (l_));have HR:=q_ (Av.up (Kp.of_below A3) (l_));have HW:=q_ A3;have KS:=h_ (∀ w',Below W W w'->(w'.cell? (a_ w)=some (.slice A n c)/\w'.cell? (f_ (w+1) 40)=some (.slice DA dn dc)/\w'.cell? (f_ (w+1) 39)=some (.slice NA nn nc)/\w'.cell? (f_ (w+1) 38)=some (.slice WA wn wc)/\Below w w w')) (fun w' hb =>
  ⟨(B0.below hb).2.1 0 _ rfl,(B1.below hb).2.1 40 _ Al,(B1.below hb).2.1 39 _ Ak,(B1.below hb).2.1 38 _ Aj,A3.trans (hb.mono A3.size)⟩)
 have BT:=q_ B1;have IT:=h_ ((prog.info? 65).map (·.size)=some vs.length) (by rw [ht.1];exact av_);have AK:=B1.2.1 42 _ Am;have AS:(w:Nat)+1<W:=by omega
 clear h ht hd Au Av B0 B1 A3 AH Am Al Ak Aj;go_enter func82,ntmps82;go_upto_region 1 with fail;rw [<-hW];clear hW;by_cases hst:st=2\/st=3
 case neg =>
  have s2:¬st=2:=fun h=>hst (.inl h)
  have s3:¬st=3:=fun h=>hst (.inr h)
  have b2:@bne Int (@instBEqOfDecidableEq Int Int.instDecidableEq) st 2=true:=by show (!decide (st=2))=true;simp [s2]
  have b3:@bne Int (@instBEqOfDecidableEq Int Int.instDecidableEq) st 3=true:=by show (!decide (st=3))=true;simp [s3]
  clear hst;go_wp2;go_ret;exact ⟨⟨_,rfl⟩,HW.o⟩
 obtain ⟨a0,_⟩:=KS.o W (b_);rcases hst with rfl | rfl
 all_goals
  go_wp2_with (with_reducible refine ac_ rfl 65 (.tmp 3) rfl _ underlying65 rfl v_ BT.o.whole IT.o ?_);refine (Reads21_t X K A n c L vs W H.o hK HT.o hL).mono ?_;rintro e S ⟨⟨x,b,rfl⟩,hS⟩;obtain ⟨xi,xf,xr,xn⟩:=x;have HS:=q_ hS;clear hS a0 AK;cases b
  case false =>
   go_wp2;go_ret;have hsz:=HS.o.size;exact ⟨⟨_,rfl⟩,(KS.o S HS.o).2.2.2.2.alloc o_ _⟩
  obtain ⟨T,hT,Ap,AG,T0⟩:=ag_ S [i_ xi,i_ xf,.bool xr,i_ xn] 87;have Ai:=h_ (Below W W T) (HS.o.trans (Ap.mono HS.o.size));obtain ⟨_,AE,_⟩:=KS.o T Ai.o;clear Ap AG T0;go_upto_region 4 with fail;rw [<-hT];clear hT;go_upto_region 7 with fail;clear AE;have AL:=HD.o.le;have AQ:=HN.o.le;have AR:=HR.o.le;go_loopw [39] (fun i wr=>∃ k:Nat,k<=dn/\i=i_ k/\Below W W wr) (fun i _=>dn - (intOf i).toNat)
  case atStart=>exact ⟨0,o_,rfl,Ai.o⟩
  obtain ⟨k,hk,rfl,hb⟩:=hrel;have Aw:=hb.size;have HB:=q_ hb;by_cases hlt:k<dn
  ·have Ae:(k:Int)<(dn:Int):=by omega
   obtain ⟨g,o,rfl,hg,y,hy⟩:=HD.o.delta_at hlt;obtain ⟨c0,c1,c2,c3,c4⟩:=hy wr hb;obtain ⟨V,hV,A1,Aq,V0⟩:=ag_ wr [i_ y.id,i_ y.field,i_ y.op,.bool y.ref,i_ y.n] 174;have A0:=h_ (Below W W V) (hb.trans (A1.mono Aw));obtain ⟨a0,_⟩:=KS.o V A0.o;have v0:=V0.2.1 0 _ rfl;have v1:=V0.2.1 1 _ rfl;clear hy hb A1 V0;go_upto_region 9 with fail;rw [<-hV];clear hV c0 c1 c2 c3 c4;go_wp2_with fail;refine (Read_t X K A n c y.id y.field V (H.o.up (Kp.of_below A0.o) (l_)) o_).mono ?_;rintro e R ⟨⟨⟨vr,vn⟩,ok,rfl⟩,hR⟩;obtain ⟨Q,hQ,A4,Ao,Q0⟩:=ag_ R [.bool vr,i_ vn] 38;have A2:=h_ (Below W W Q) (A0.o.trans ((hR.trans (A4.mono hR.size)).mono A0.o.size));have q0:=Q0.2.1 0 _ rfl;have HF:=q_ (KS.o Q A2.o).2.2.2.2;clear hR A4 Q0 a0 v0 v1;go_upto_region 10 with fail;rw [<-hQ];clear hQ;go_wp2;all_goals first
    | (go_ret;exact ⟨⟨_,rfl⟩,HF.o⟩)
    | (go_roundw
       case rel=>exact ⟨k+1,o_,za_,A2.o⟩
       case measure=>exact me_)
  have Ae:¬(k:Int)<(dn:Int):=by omega
  have AO:=@run_makeMap prog;have Ad:dc_ (wr.alloc (.map #[] 0)) wr:=dc_.made wr;have Az:=q_ Ad;have Ah:=h_ (Below W W (wr.alloc (.map #[] 0))) (hb.alloc Aw _);obtain ⟨_,_,AD,_⟩:=KS.o _ Ah.o;obtain ⟨mb,Af⟩:=ex_ (wr:Nat);have AA:=h_ (dc_ (wr.alloc (.map #[] 0)) mb) (by rw [Af];exact Ad);have AP:W<=mb:=by omega
  clear Ad;go_upto_region 15 with fail;rw [<-Af];clear Af AD Az;go_loopw [63] (fun i wr=>∃ k:Nat,k<=nn/\i=i_ k/\Hid (dc_ wr mb)/\Below W W wr) (fun i _=>nn - (intOf i).toNat)
  case atStart=>exact ⟨0,o_,rfl,AA,Ah.o⟩
  rename World=>w1
  obtain ⟨k1,AM,rfl,hM,A6⟩:=hrel;have AI:=A6.size;have Ag:=q_ A6;by_cases hlt1:k1<nn
  ·have A8:(k1:Int)<(nn:Int):=by omega
   obtain ⟨g,o,rfl,hg,y,_,_,hy⟩:=HN.o.obj_at hlt1;obtain ⟨c0,c1⟩:=hy w1 A6;obtain ⟨V,hV,A1,Aq,V0⟩:=ag_ w1 [i_ y.id,.slice y.A y.n y.c] 90;have A0:=h_ (Below W W V) (A6.trans (A1.mono AI));have HV:=q_ V0;have Ac:=q_ (hM.o.below A1);obtain ⟨a0,_⟩:=KS.o V A0.o;have v0:=V0.2.1 0 _ rfl;clear hy A6 A1 V0;go_upto_region 17 with fail;rw [<-hV];clear hV c0 c1;go_wp2_with fail;refine (Get_t X K A n c y.id V (H.o.up (Kp.of_below A0.o) (l_)) o_).mono ?_;rintro e R ⟨⟨oi,oA,on,oc,ob,rfl⟩,hR⟩;obtain ⟨Q,hQ,A4,Ao,Q0⟩:=ag_ R [i_ oi,.slice oA on oc] 90;have A5:=h_ (Below V V Q) (hR.trans (A4.mono hR.size));have A2:=h_ (Below W W Q) (A0.o.trans (A5.o.mono A0.o.size));have v0:=(HV.o.below A5.o).2.1 0 _ rfl;have Ab:=q_ (Ac.o.below A5.o);have HF:=q_ (KS.o Q A2.o).2.2.2.2;clear hR A4 Q0 a0;go_upto_region 18 with fail;rw [<-hQ];clear hQ;cases ob
   case true =>
    go_wp2;go_ret;exact ⟨⟨_,rfl⟩,HF.o⟩
   obtain ⟨Z,Aa,An,Ar⟩:=Ab.o.put y.id true;have AB:=q_ An;have Ay:=h_ (Below W W Z) (A2.o.trans (al_ Ar A2.o.size (fun k hk=>by injection hk with hk;omega)));have HP:=q_ Aa;clear Aa An Ar;go_wp2_with (at_mapUpdate;refine wpList_put rfl _ _ _ _ rfl _ _ _ w_ w_ w_ HP.o ?_);go_roundw
   case rel=>exact ⟨k1+1,o_,za_,AB,Ay.o⟩
   case measure=>exact me_
  have A8:¬(k1:Int)<(nn:Int):=by omega
  obtain ⟨_,_,_,AC,_⟩:=KS.o _ Ag.o;go_upto_region 23 with fail;clear AC;go_loopw [82] (fun i wr=>∃ k:Nat,k<=wn/\i=i_ k/\Hid (dc_ wr mb)/\Below W W wr) (fun i _=>wn - (intOf i).toNat)
  case atStart=>exact ⟨0,o_,rfl,hM,Ag.o⟩
  rename World=>w2
  obtain ⟨k2,AN,rfl,AF,A7⟩:=hrel;have AJ:=A7.size;have Ax:=q_ A7;by_cases hlt2:k2<wn
  ·have A9:(k2:Int)<(wn:Int):=by omega
   obtain ⟨g,o,rfl,hg,y,hy⟩:=HR.o.ds_ hlt2;obtain ⟨c0,c1,c2,c3⟩:=hy w2 A7;obtain ⟨V,hV,A1,Aq,V0⟩:=ag_ w2 [i_ y.id,i_ y.field,.bool y.ref,i_ y.n] 87;have A0:=h_ (Below W W V) (A7.trans (A1.mono AJ));have HV:=q_ V0;have Ac:=q_ (AF.o.below A1);obtain ⟨a0,_⟩:=KS.o V A0.o;have v0:=V0.2.1 0 _ rfl;have v1:=V0.2.1 1 _ rfl;clear hy A7 A1 V0;go_upto_region 25 with fail;rw [<-hV];clear hV c0 c1 c2 c3;go_wp2_with fail;refine (Read_t X K A n c y.id y.field V (H.o.up (Kp.of_below A0.o) (l_)) o_).mono ?_;rintro e R ⟨⟨⟨vr,vn⟩,ok,rfl⟩,hR⟩;obtain ⟨Q,hQ,A4,Ao,Q0⟩:=ag_ R [.bool vr,i_ vn] 38;have A5:=h_ (Below V V Q) (hR.trans (A4.mono hR.size));have A2:=h_ (Below W W Q) (A0.o.trans (A5.o.mono A0.o.size));have v0:=(HV.o.below A5.o).2.1 0 _ rfl;have Ab:=q_ (Ac.o.below A5.o);obtain ⟨lt,As⟩:=Ab.o.look y.id;have HF:=q_ (KS.o Q A2.o).2.2.2.2;clear hR A4 Q0 a0 v1;go_upto_region 26 with fail;rw [<-hQ];clear hQ;cases ok <;> cases lt
   all_goals
    go_wp2;first
     | (go_ret;exact ⟨⟨_,rfl⟩,HF.o⟩)
     | (go_roundw
        case rel=>exact ⟨k2+1,o_,za_,Ab,A2.o⟩
        case measure=>exact me_)
  have A9:¬(k2:Int)<(wn:Int):=by omega
  go_wp2;go_ret;exact ⟨⟨_,rfl⟩,(KS.o _ Ax.o).2.2.2.2⟩
section
variable {b F N N1 o k k1 k2:Nat} {pv:Nat->Value} {qs qs1:List Nat} {G G1:NP} {w w1 w2:World}
theorem RG.seq (u:Up w G w1 G1) (hq:∀ q ∈ qs,q ∈ qs1) (h1:N<=N1) (h2:N1<=N+k1) (h:RG b F pv qs1 N1 o G1 w1 k2 w2):RG b F pv qs N o G w (k1+k2) w2:=by
 obtain ⟨G',A1,N',g1,g2,g3,g4,g5⟩:=h;exact ⟨G',A1,N',g1,fun q A0=>g2 q (hq q A0),o_,o_,q_ (u.trans g5.o)⟩
theorem RG.more {k':Nat} (h:RG b F pv qs N o G w k w2) (hk:k<=k'):RG b F pv qs N o G w k' w2:=by
 obtain ⟨G',A0,N',g1,g2,g3,g4,g5⟩:=h;exact ⟨G',A0,N',g1,g2,g3,o_,g5⟩
theorem RG.put {e:Ending} (h:RPut b F pv qs N o G w e w1):RG b F pv qs N o G w 1 w1:=by
 obtain ⟨_,G',h1,h2,_⟩:=h;exact ⟨G',qs,N+1,h1,fun _ h=>h,o_,o_,h2⟩
theorem RG.zero (h:GC b F pv qs N N o G w1) (u:Up w G w1 G):RG b F pv qs N o G w 0 w1:=⟨G,qs,N,q_ h,fun _ h=>h,l_,l_,q_ u⟩
end
def ce:Nat->Nat
 | 0=>1
 | d+1=>1+2*ce d
structure ExB (w:World) (b:Nat) (kd n:Int) (s:ByteArray) (op:Int) (A:OA) (m c:Nat):Prop where
 y0:w.cell? (a_ b)=some (i_ kd)
 y1:w.cell? (f_ b 1)=some (i_ n)
 y2:w.cell? (f_ b 2)=some (.string s)
 y3:w.cell? (f_ b 3)=some (i_ op)
 y4:w.cell? (f_ b 4)=some (.slice A m c)
structure ExE (w:World) (A:OA) (k:Nat) (kd n:Int) (s:ByteArray) (op:Int) (B:OA) (m c g o:Nat):Prop where
 hA:A=some (f_ g o)
 lt:g<w
 y0:w.cell? ⟨g,o+k*5,none⟩=some (i_ kd)
 y1:w.cell? ⟨g,o+k*5+1,none⟩=some (i_ n)
 y2:w.cell? ⟨g,o+k*5+2,none⟩=some (.string s)
 y3:w.cell? ⟨g,o+k*5+3,none⟩=some (i_ op)
 y4:w.cell? ⟨g,o+k*5+4,none⟩=some (.slice B m c)
theorem ExE.up {w w':World} {A:OA} {k:Nat} {kd n:Int} {s:ByteArray} {op:Int} {B:OA} {m c g o:Nat} {G G':NP} (h:ExE w A k kd n s op B m c g o) (u:Up w G w' G') (hg:¬G g):ExE w' A k kd n s op B m c g o:=by
 have hc:∀ j,w'.cell? (f_ g j)=w.cell? (f_ g j):=fun j=>u.kp.cell h.lt hg
 exact ⟨h.hA,lt_ h.lt u.kp.size,(hc _).trans h.y0,(hc _).trans h.y1,(hc _).trans h.y2,(hc _).trans h.y3,(hc _).trans h.y4⟩
theorem SlP.ex {d:Nat} {X:NP} {w:World} {K:Nat} {A:OA} {n c k:Nat} (h:SlP w X K pE (be_ d) A n c) (hk:k<n):∃ (kd nn:Int) (s:ByteArray) (op:Int) (B:OA) (m c' g o:Nat),ExE w A k kd nn s op B m c' g o/\¬X g/\VTs w X K (be_ d) [i_ kd,i_ nn,.string s,i_ op,.slice B m c']/\pE [i_ kd,i_ nn,.string s,i_ op,.slice B m c']:=by
 obtain ⟨g,o,us,rfl,hg,hX,hu,A0,hc⟩:=h.el hk;have A1:=A0;obtain ⟨A2,n',s',A3,A',m',c',rfl,_,_,_⟩:=A0;rw [ea_] at hc;exact ⟨A2,n',s',A3,A',m',c',g,o,⟨rfl,hg,hc 0 _ rfl,hc 1 _ rfl,hc 2 _ rfl,hc 3 _ rfl,hc 4 _ rfl⟩,hX,hu,A1⟩
def ExC (b F:Nat) (pv:Nat->Value) (o cst:Nat) (w:World) (G:NP) (v:Value):Prop:=∀ (w':World) (G':NP) (qs':List Nat) (N':Nat) (r:Int),GC b F pv qs' N' N' o G' w'->Up w G w' G'->N'+cst<=10000000000->Calls prog 192 #[.pointer (some (a_ b)),v,i_ r] w' fun e w''=>e=.returned (.tuple #[])/\RG b F pv qs' N' o G' w' cst w''
theorem expr_step (b F:Nat) (pv:Nat->Value) (o cst:Nat) (qs:List Nat) (N:Nat) (G:NP) (w:World) (h:GC b F pv qs N N o G w) (kd n:Int) (s:ByteArray) (op:Int) (A:OA) (m c:Nat) (r:Int) (hN:N+(1+2*cst)<=10000000000) (h4:kd=4->1<=m) (h5:kd=5->2<=m)
  (hk:∀ k,k<m->∃ (kd' n':Int) (s':ByteArray) (op':Int) (A':OA) (m' c' g o':Nat),ExE w A k kd' n' s' op' A' m' c' g o'/\¬G g/\ExC b F pv o cst w G (.agg #[i_ kd',i_ n',.string s',i_ op',.slice A' m' c'])) :
  Calls prog 192 #[.pointer (some (a_ b)),.agg #[i_ kd,i_ n,.string s,i_ op,.slice A m c],i_ r] w fun e w'=>e=.returned (.tuple #[])/\RG b F pv qs N o G w (1+2*cst) w':=by
 obtain ⟨W,hW,A4,Ae,B0⟩:=ag_ w [i_ kd,i_ n,.string s,i_ op,.slice A m c] 209;have U0:Up w G W G:=Up.of_below A4;have HU:=q_ U0;have H:=q_ (h.below A4);have Ab:¬G w:=fun hx=>Nat.lt_irrefl _ (h.lt _ hx)
 have KC:=h_ (∀ (w':World) (G':NP),Up W G w' G'->ExB w' w kd n s op A m c) (fun w' G' u=>by
  have hc:∀ j,w'.cell? (f_ w j)=W.cell? (f_ w j):=fun j=>u.kp.cell o_ Ab
  exact ⟨(hc _).trans (B0.2.1 0 _ rfl),(hc _).trans (B0.2.1 1 _ rfl),(hc _).trans (B0.2.1 2 _ rfl),(hc _).trans (B0.2.1 3 _ rfl),(hc _).trans (B0.2.1 4 _ rfl)⟩)
 have HK:=q_ hk;obtain ⟨x0,x1,x2,x3,x4⟩:=KC.o W G (Up.refl _ _);clear B0 A4 Ae h hk U0 Ab;go_enter func192,ntmps192;go_upto_region 1 with fail;rw [<-hW];clear hW;by_cases hk1:kd=1
 ·subst hk1;exact v2_
 by_cases hk2:kd=2
 ·subst hk2;exact v2_
 by_cases hk3:kd=3
 ·subst hk3;go_wp2_with fail;refine (fd_ b F pv qs N o G W H.o s).mono ?_;rintro e W1 ⟨⟨vi,rfl⟩,A1⟩;have H1:=q_ (H.o.below A1);have U1:=q_ (HU.o.trans (Up.of_below A1));clear A1 x0 x1 x2 x3 x4;go_wp2_with (go_at_call 112;refine (bx_ b F pv qs N o G W1 H1.o o_ _ _ _ _ _).mono ?_;rintro e w1 hp;obtain rfl:=hp.1;have R1:=q_ (RG.put hp);clear hp);refine end0 rfl rfl ?_;exact ⟨rfl,(RG.seq (k1:=0) U1.o (fun _ h=>h) (l_) (l_) R1.o).more o_⟩
 by_cases hk4:kd=4
 ·subst hk4;have Ai:(0:Int)<(m:Int):=by have:=h4 rfl;omega
  obtain ⟨kd',n',s',op',A',m',c',g,o',hE,hg,hC⟩:=HK.o 0 o_;obtain ⟨rfl,Ag,z0,z1,z2,z3,z4⟩:=hE.up HU.o hg;simp only [Nat.zero_mul,Nat.add_zero] at z0 z1 z2 z3 z4;have HC:=q_ hC;clear hE hC;go_wp2_with fail;refine (HC.o W G qs N r H.o HU.o o_).mono ?_;rintro e W1 ⟨rfl,G1,A7,N1,H1,A6,A9,Aa,U1⟩;clear x0 x1 x2 x3 x4 z0 z1 z2 z3 z4;obtain ⟨x0,x1,x2,x3,x4⟩:=KC.o W1 G1 U1.o;go_wp2_with (go_at_call 112;refine (bx_ b F pv A7 N1 o G1 W1 H1.o o_ _ _ _ _ _).mono ?_;rintro e w1 hp;obtain rfl:=hp.1;have R1:=q_ (RG.put hp);clear hp);refine end0 rfl rfl ?_;exact ⟨rfl,(RG.seq (k1:=cst) (HU.o.trans U1.o) A6 A9 Aa R1.o).more o_⟩
 by_cases hk5:kd=5
 ·subst hk5;have Al:(0:Int)<(m:Int):=by have:=h5 rfl;omega
  have Ai:(1:Int)<(m:Int):=by have:=h5 rfl;omega
  obtain ⟨kd',n',s',op',A',m',c',g,o',hE,hg,hC⟩:=HK.o 0 o_;obtain ⟨Ao,n2,s2,Ap,A2,m2,c2,g2,o2,A3,A5,A8⟩:=HK.o 1 o_;obtain ⟨hA,Ag,z0,z1,z2,z3,z4⟩:=hE.up HU.o hg;subst hA;simp only [Nat.zero_mul,Nat.add_zero] at z0 z1 z2 z3 z4;have Ad:=q_ (A3.up HU.o A5);have Af:=(A3.up HU.o A5).lt;have HC:=q_ hC;have Ac:=q_ A8;clear hE hC A3 A8;go_wp2_with fail;refine (HC.o W G qs N r H.o HU.o o_).mono ?_;rintro e W1 ⟨rfl,G1,A7,N1,H1,A6,A9,Aa,U1⟩;clear x0 x1 x2 x3 x4 z0 z1 z2 z3 z4;obtain ⟨x0,x1,x2,x3,x4⟩:=KC.o W1 G1 U1.o;obtain ⟨A0,Ah,z0,z1,z2,z3,z4⟩:=Ad.o.up U1.o A5;injection A0 with A0;injection A0 with e1 e2 e3;subst e1 e2;simp only [Nat.one_mul] at z0 z1 z2 z3 z4;go_wp2_with fail;refine (Ac.o W1 G1 A7 N1 _ H1.o (HU.o.trans U1.o) o_).mono ?_;rintro e W2 ⟨rfl,G2,Ak,N2,H2,Aj,Am,An,U2⟩;clear x0 x1 x2 x3 x4 z0 z1 z2 z3 z4;obtain ⟨x0,x1,x2,x3,x4⟩:=KC.o W2 G2 (U1.o.trans U2.o);go_wp2_with (go_at_call 112;refine (bx_ b F pv Ak N2 o G2 W2 H2.o o_ _ _ _ _ _).mono ?_;rintro e w1 hp;obtain rfl:=hp.1;have R1:=q_ (RG.put hp);clear hp);refine end0 rfl rfl ?_;exact ⟨rfl,(RG.seq (k1:=cst+cst) ((HU.o.trans U1.o).trans U2.o) (fun q hq=>Aj q (A6 q hq)) o_ o_ R1.o).more o_⟩
 by_cases hk6:kd=6
 ·subst hk6;exact v2_
 go_wp2;refine end0 rfl rfl ?_;exact ⟨rfl,(RG.zero H.o HU.o).more o_⟩
theorem expr_g (b F:Nat) (pv:Nat->Value) (o:Nat):∀ (d:Nat) (vs:VL) (w:World) (G:NP),VTs w G 20 (be_ d) vs->pE vs->ExC b F pv o (ce d) w G (.agg vs.toArray)
 | 0,vs,w,G,hv,hp=>fun w' G' A0 N' r hg u hN=>by
  obtain ⟨kd,n,s,op,A,c,rfl⟩:=hv.expr0;obtain ⟨_,_,_,_,_,m',_,e,h4,h5,_⟩:=hp;injection e with e0 e;injection e with e1 e;injection e with e2 e;injection e with e3 e;injection e with e4 e;injection e0 with _ e0;injection e4 with _ e4 _;subst e0 e4;exact (expr_step b F pv o 0 A0 N' G' w' hg _ _ _ _ _ _ _ _ (by show N'+1<=_;exact hN) h4 h5 (fun k hk=>o_))
 | d+1,vs,w,G,hv,hp=>fun w' G' A0 N' r hg u hN=>by
  have A2:=hv.go u (l_);obtain ⟨kd,n,s,op,A,m,c,rfl,A1⟩:=A2.expr;obtain ⟨_,_,_,_,_,_,_,e,h4,h5,_⟩:=hp;injection e with e0 e;injection e with e1 e;injection e with e2 e;injection e with e3 e;injection e with e4 e;injection e0 with _ e0;injection e4 with _ e4 _;subst e0 e4;refine expr_step b F pv o (ce d) A0 N' G' w' hg _ _ _ _ _ _ _ _ hN h4 h5 (fun k hk=>?_);obtain ⟨A3,nn,s',A4,B,m',c',g,o',h1,h2,h3,h4⟩:=A1.ex hk;exact ⟨A3,nn,s',A4,B,m',c',g,o',h1,h2,expr_g b F pv o d _ w' G' h3 h4⟩
def LsC (b F:Nat) (pv:Nat->Value) (cst:Nat) (w:World) (G:NP) (om:Nat) (B:OA) (nb cb:Nat):Prop:=∀ (w':World) (G':NP) (qs':List Nat) (N' o:Nat),GC b F pv qs' N' N' o G' w'->Up w G w' G'->N'+cst<=10000000000->o<=om->Calls prog 111 #[.pointer (some (a_ b)),.slice B nb cb] w' fun e w''=>e=.returned (.tuple #[])/\RG b F pv qs' N' o G' w' cst w''
theorem LsC.go {b F cst om nb cb:Nat} {pv:Nat->Value} {w w':World} {G G':NP} {B:OA} (h:LsC b F pv cst w G om B nb cb) (u:Up w G w' G'):LsC b F pv cst w' G' om B nb cb:=fun w2 G2 qs N o hg u2=>h w2 G2 qs N o hg (u.trans u2)
theorem stb_up {w W:World} {G:NP} {kd:Int} {s f:ByteArray} {n op:Int} {A B C:OA} {m c m1 c1 m2 c2:Nat} (B0:Bx W w [i_ kd,.string s,.string f,i_ n,i_ op,.slice A m c,.slice B m1 c1,.slice C m2 c2]) (hz:(w:Nat)<W) (hnG:¬G w):∀ (w':World) (G':NP),Up W G w' G'->StB w' w kd s f n op A B C m c m1 c1 m2 c2:=fun w' G' u=>by
 have hc:∀ j,w'.cell? (f_ w j)=W.cell? (f_ w j):=fun j=>u.kp.cell hz hnG
 exact ⟨(hc _).trans (B0.2.1 0 _ rfl),(hc _).trans (B0.2.1 1 _ rfl),(hc _).trans (B0.2.1 2 _ rfl),(hc _).trans (B0.2.1 3 _ rfl),(hc _).trans (B0.2.1 4 _ rfl),(hc _).trans (B0.2.1 5 _ rfl),(hc _).trans (B0.2.1 6 _ rfl),(hc _).trans (B0.2.1 7 _ rfl)⟩
theorem pl_lit {b F N o:Nat} {pv:Nat->Value} {qs:List Nat} {G:NP} {w:World} (h:GC b F pv qs N N o G w) (i:Nat) (hi:i<N):Pl (w.alloc (.cells #[i_ (i:Int)] 3)) b N (some (a_ w)) 1:=fun j hj=>by
 obtain rfl:j=0:=by omega
 refine ⟨w,0,i,rfl,zk_,zg_,hi,fun g' M c' hc e=>?_⟩;obtain ⟨A,n,c,A0,_,_,hG,_⟩:=h.own (j:=1) rfl rfl;rw [ak_ _ _ _ _ h.blt,A0] at hc;injection hc with hc;injection hc with q1 q2 q3;subst q1;have h2:g'<w:=h.lt _ (hG _ rfl);have h3:w=g':=e;omega
theorem loop6_g (b F:Nat) (pv:Nat->Value) (o cb:Nat) (qs:List Nat) (N:Nat) (G:NP) (w:World) (h:GC b F pv qs N N o G w) (s f:ByteArray) (n op:Int) (E B C:OA) (m c m1 c1 m2 c2:Nat) (ho:o<=900) (hN:N+(90+cb)<=10000000000) (hm:1<=m)
  (hk:∀ k,k<m->∃ (kd' n':Int) (s':ByteArray) (op':Int) (A':OA) (m' c' g o':Nat),ExE w E k kd' n' s' op' A' m' c' g o'/\¬G g/\ExC b F pv o 31 w G (.agg #[i_ kd',i_ n',.string s',i_ op',.slice A' m' c'])) (hb:LsC b F pv cb w G o B m1 c1) :
  Calls prog 191 #[.pointer (some (a_ b)),.agg #[i_ 6,.string s,.string f,i_ n,i_ op,.slice E m c,.slice B m1 c1,.slice C m2 c2]] w fun e w'=>e=.returned (.tuple #[])/\RG b F pv qs N o G w (90+cb) w':=by
 obtain ⟨As,Av,s0,Aw,A0,Au,Ak,g0,Aj,A2,Ae,A6⟩:=hk 0 o_;have Ac:=A2.hA;subst Ac;have Aa:=q_ A2;have A9:=q_ A6;have Al:(0:Int)<(m:Int):=by omega
 clear A2 A6;obtain ⟨W,hW,A3,Ad,B0⟩:=ag_ w [i_ 6,.string s,.string f,i_ n,i_ op,.slice (some ⟨g0,Aj,none⟩) m c,.slice B m1 c1,.slice C m2 c2] 212;have HU:=h_ (Up w G W G) (Up.of_below A3);have H:=q_ (h.below A3);have A7:¬G w:=fun hx=>Nat.lt_irrefl _ (h.lt _ hx)
 have KC:=q_ (stb_up (w:=w) (W:=W) (G:=G) B0 o_ A7);have HB:=q_ hb;obtain ⟨x0,x1,x2,x3,x4,x5,x6,x7⟩:=KC.o W G (Up.refl _ _);clear B0 A3 Ad h hk A7 hb;go_enter func191,ntmps191;go_upto_region 1 with fail;rw [<-hW];clear hW;go_wp2_with fail;refine (fd_ b F pv qs N o G W H.o _).mono ?_;rintro e W1 ⟨⟨r1,rfl⟩,A1⟩;have H1:=q_ (H.o.below A1);have V1:=q_ (Up.of_below (Y:=G) A1);clear A1;have U1:=q_ ((q_ (Up.refl W G)).o.trans V1.o);clear x0 x1 x2 x3 x4 x5 x6 x7;obtain ⟨x0,x1,x2,x3,x4,x5,x6,x7⟩:=KC.o W1 G U1.o;go_wp2_with fail;refine (mark_g b F pv qs N o G W1 H1.o o_).mono ?_;rintro e W2 ⟨rfl,G2,A8,N2,H2,Ag,Ap,Am,V2⟩;have U2:=q_ (U1.o.trans V2.o);clear x0 x1 x2 x3 x4 x5 x6 x7;have q2:∀ q ∈ qs,q ∈ A8:=fun q hq=>Ag q ((fun _ h=>h) q hq)
 obtain ⟨x0,x1,x2,x3,x4,x5,x6,x7⟩:=KC.o W2 G2 U2.o;obtain ⟨_,Af,z0,z1,z2,z3,z4⟩:=Aa.o.up (HU.o.trans U2.o) Ae;simp only [Nat.zero_mul,Nat.add_zero] at z0 z1 z2 z3 z4;go_wp2_with fail;refine (A9.o W2 G2 A8 N2 _ H2.o (HU.o.trans U2.o) o_).mono ?_;rintro e W3 ⟨rfl,G3,A4,N3,H3,Ah,Aq,An,V3⟩;have U3:=q_ (U2.o.trans V3.o);clear x0 x1 x2 x3 x4 x5 x6 x7;have q3:∀ q ∈ qs,q ∈ A4:=fun q hq=>Ah q (q2 q hq)
 obtain ⟨x0,x1,x2,x3,x4,x5,x6,x7⟩:=KC.o W3 G3 U3.o;clear z0 z1 z2 z3 z4;go_wp2_with fail;refine (bx_ b F pv A4 N3 o G3 W3 H3.o o_ _ _ _ _ _).mono ?_;rintro e W4 ⟨rfl,G4,H4,V4,_,_⟩;have U4:=q_ (U3.o.trans V4.o);clear x0 x1 x2 x3 x4 x5 x6 x7;obtain ⟨x0,x1,x2,x3,x4,x5,x6,x7⟩:=KC.o W4 G4 U4.o;go_wp2_with fail;refine (HB.o W4 G4 A4 (N3+1) o H4.o (HU.o.trans U4.o) o_ o_).mono ?_;rintro e W5 ⟨rfl,G5,A5,N5,H5,Ai,Ar,Ao,V5⟩;have U5:=q_ (U4.o.trans V5.o);clear x0 x1 x2 x3 x4 x5 x6 x7;have q5:∀ q ∈ qs,q ∈ A5:=fun q hq=>Ai q (q3 q hq)
 obtain ⟨x0,x1,x2,x3,x4,x5,x6,x7⟩:=KC.o W5 G5 U5.o;go_wp2_with fail;refine (bx_ b F pv A5 N5 o G5 W5 H5.o o_ _ _ _ _ _).mono ?_;rintro e W6 ⟨rfl,G6,H6,V6,_,_⟩;have U6:=q_ (U5.o.trans V6.o);clear x0 x1 x2 x3 x4 x5 x6 x7;obtain ⟨x0,x1,x2,x3,x4,x5,x6,x7⟩:=KC.o W6 G6 U6.o;go_wp2_with fail;refine (here_g b F pv A5 (N5+1) o G6 _ (H6.o.below ((b_).alloc (l_) _)) o_ _ 1 1 o_ (pl_lit H6.o N3 o_)).mono ?_;rintro e W7 ⟨rfl,H7,Ab⟩;have V7:=q_ ((Up.of_below (Y:=G6) ((Below.refl W6 W6).alloc (l_) (.cells #[i_ ((N3:Nat):Int)] 3))).trans Ab.out);have U7:=q_ (U6.o.trans V7.o);clear x0 x1 x2 x3 x4 x5 x6 x7;obtain ⟨x0,x1,x2,x3,x4,x5,x6,x7⟩:=KC.o W7 G6 U7.o;go_wp2_with fail;refine end0 rfl rfl ?_;exact ⟨rfl,(RG.seq (k1:=90+cb) (HU.o.trans U7.o) q5 o_ o_ (RG.zero H7.o (Up.refl _ _))).more o_⟩
theorem loop5_g (b F:Nat) (pv:Nat->Value) (o cb:Nat) (qs:List Nat) (N:Nat) (G:NP) (w:World) (h:GC b F pv qs N N o G w) (s f:ByteArray) (n op:Int) (E B C:OA) (m c m1 c1 m2 c2:Nat) (ho:o<=900) (hN:N+(90+cb)<=10000000000) (hm:2<=m)
  (hk:∀ k,k<m->∃ (kd' n':Int) (s':ByteArray) (op':Int) (A':OA) (m' c' g o':Nat),ExE w E k kd' n' s' op' A' m' c' g o'/\¬G g/\ExC b F pv o 31 w G (.agg #[i_ kd',i_ n',.string s',i_ op',.slice A' m' c'])) (hb:LsC b F pv cb w G o B m1 c1) :
  Calls prog 191 #[.pointer (some (a_ b)),.agg #[i_ 5,.string s,.string f,i_ n,i_ op,.slice E m c,.slice B m1 c1,.slice C m2 c2]] w fun e w'=>e=.returned (.tuple #[])/\RG b F pv qs N o G w (90+cb) w':=by
 obtain ⟨BG,BK,s0,BN,A0,BI,Bt,g0,Br,Ag,Bh,AK⟩:=hk 0 o_;have Bf:=Ag.hA;subst Bf;have B1:=q_ Ag;have AY:=q_ AK;have Bv:(0:Int)<(m:Int):=by omega
 clear Ag AK;obtain ⟨BH,BL,s1,BO,A1,BJ,Bu,g1,BM,Ah,Bi,AL⟩:=hk 1 o_;have Ae:=Ah.hA;injection Ae with Ae;injection Ae with e1 e2 e3;subst e1 e2;have B2:=q_ Ah;have AZ:=q_ AL;have Bw:(1:Int)<(m:Int):=by omega
 clear Ah AL;obtain ⟨W,hW,Ai,Bg,B0⟩:=ag_ w [i_ 5,.string s,.string f,i_ n,i_ op,.slice (some ⟨g0,Br,none⟩) m c,.slice B m1 c1,.slice C m2 c2] 212;have HU:=h_ (Up w G W G) (Up.of_below Ai);have H:=q_ (h.below Ai);have AM:¬G w:=fun hx=>Nat.lt_irrefl _ (h.lt _ hx)
 have KC:=q_ (stb_up (w:=w) (W:=W) (G:=G) B0 o_ AM);have HB:=q_ hb;obtain ⟨x0,x1,x2,x3,x4,x5,x6,x7⟩:=KC.o W G (Up.refl _ _);clear B0 Ai Bg h hk AM hb;go_enter func191,ntmps191;go_upto_region 1 with fail;rw [<-hW];clear hW;go_wp2_with fail;refine (fd_ b F pv qs N o G W H.o _).mono ?_;rintro e W1 ⟨⟨r1,rfl⟩,Af⟩;have H1:=q_ (H.o.below Af);have V1:=q_ (Up.of_below (Y:=G) Af);clear Af;have U1:=q_ ((q_ (Up.refl W G)).o.trans V1.o);clear x0 x1 x2 x3 x4 x5 x6 x7;obtain ⟨x0,x1,x2,x3,x4,x5,x6,x7⟩:=KC.o W1 G U1.o;obtain ⟨_,Bj,z0,z1,z2,z3,z4⟩:=B1.o.up (HU.o.trans U1.o) Bh;simp only [Nat.zero_mul,Nat.add_zero] at z0 z1 z2 z3 z4;go_wp2_with fail;refine (AY.o W1 G qs N _ H1.o (HU.o.trans U1.o) o_).mono ?_;rintro e W2 ⟨rfl,G2,AO,N2,H2,Bn,BC,By,V2⟩;have U2:=q_ (U1.o.trans V2.o);clear x0 x1 x2 x3 x4 x5 x6 x7;have q2:∀ q ∈ qs,q ∈ AO:=fun q hq=>Bn q ((fun _ h=>h) q hq)
 obtain ⟨x0,x1,x2,x3,x4,x5,x6,x7⟩:=KC.o W2 G2 U2.o;clear z0 z1 z2 z3 z4;obtain ⟨_,Bk,z0,z1,z2,z3,z4⟩:=B2.o.up (HU.o.trans U2.o) Bi;simp only [Nat.one_mul] at z0 z1 z2 z3 z4;go_wp2_with fail;refine (AZ.o W2 G2 AO N2 _ H2.o (HU.o.trans U2.o) o_).mono ?_;rintro e W3 ⟨rfl,G3,AP,N3,H3,Bo,BD,Bz,V3⟩;have U3:=q_ (U2.o.trans V3.o);clear x0 x1 x2 x3 x4 x5 x6 x7;have q3:∀ q ∈ qs,q ∈ AP:=fun q hq=>Bo q (q2 q hq)
 obtain ⟨x0,x1,x2,x3,x4,x5,x6,x7⟩:=KC.o W3 G3 U3.o;clear z0 z1 z2 z3 z4;go_wp2_with fail;refine (more_g b F pv AP N3 o G3 W3 H3.o).mono ?_;rintro e W4 ⟨⟨r4,rfl⟩,G4,A7,N4,H4,Bp,BE,BA,V4⟩;have U4:=q_ (U3.o.trans V4.o);clear x0 x1 x2 x3 x4 x5 x6 x7;have q4:∀ q ∈ qs,q ∈ A7:=fun q hq=>Bp q (q3 q hq)
 obtain ⟨x0,x1,x2,x3,x4,x5,x6,x7⟩:=KC.o W4 G4 U4.o;go_wp2_with fail;refine (bx_ b F pv A7 N4 o G4 W4 H4.o o_ _ _ _ _ _).mono ?_;rintro e W5 ⟨rfl,G5,H5,V5,_,_⟩;have U5:=q_ (U4.o.trans V5.o);clear x0 x1 x2 x3 x4 x5 x6 x7;obtain ⟨x0,x1,x2,x3,x4,x5,x6,x7⟩:=KC.o W5 G5 U5.o;go_wp2_with fail;refine (bx_ b F pv A7 (N4+1) o G5 W5 H5.o o_ _ _ _ _ _).mono ?_;rintro e W6 ⟨rfl,G6,H6,V6,_,_⟩;have U6:=q_ (U5.o.trans V6.o);clear x0 x1 x2 x3 x4 x5 x6 x7;obtain ⟨x0,x1,x2,x3,x4,x5,x6,x7⟩:=KC.o W6 G6 U6.o;go_wp2_with fail;refine (mark_g b F pv A7 (N4+1+1) o G6 W6 H6.o o_).mono ?_;rintro e W7 ⟨rfl,G7,A5,N7,H7,Bq,BF,BB,V7⟩;have U7:=q_ (U6.o.trans V7.o);clear x0 x1 x2 x3 x4 x5 x6 x7;have q7:∀ q ∈ qs,q ∈ A5:=fun q hq=>Bq q (q4 q hq)
 obtain ⟨x0,x1,x2,x3,x4,x5,x6,x7⟩:=KC.o W7 G7 U7.o;go_wp2_with fail;refine (bx_ b F pv A5 N7 o G7 W7 H7.o o_ _ _ _ _ _).mono ?_;rintro e W8 ⟨rfl,G8,H8,V8,_,_⟩;have U8:=q_ (U7.o.trans V8.o);clear x0 x1 x2 x3 x4 x5 x6 x7;obtain ⟨x0,x1,x2,x3,x4,x5,x6,x7⟩:=KC.o W8 G8 U8.o;go_wp2_with fail;refine (bx_ b F pv A5 (N7+1) o G8 W8 H8.o o_ _ _ _ _ _).mono ?_;rintro e W9 ⟨rfl,G9,H9,V9,_,_⟩;have U9:=q_ (U8.o.trans V9.o);clear x0 x1 x2 x3 x4 x5 x6 x7;obtain ⟨x0,x1,x2,x3,x4,x5,x6,x7⟩:=KC.o W9 G9 U9.o;go_wp2_with fail;refine (bx_ b F pv A5 (N7+1+1) o G9 W9 H9.o o_ _ _ _ _ _).mono ?_;rintro e AC ⟨rfl,Al,AQ,B3,_,_⟩;have As:=q_ (U9.o.trans B3.o);clear x0 x1 x2 x3 x4 x5 x6 x7;obtain ⟨x0,x1,x2,x3,x4,x5,x6,x7⟩:=KC.o AC Al As.o;go_wp2_with fail;refine (bx_ b F pv A5 (N7+1+1+1) o Al AC AQ.o o_ _ _ _ _ _).mono ?_;rintro e AD ⟨rfl,Am,AR,B4,_,_⟩;have Aa:=q_ (As.o.trans B4.o);clear x0 x1 x2 x3 x4 x5 x6 x7;obtain ⟨x0,x1,x2,x3,x4,x5,x6,x7⟩:=KC.o AD Am Aa.o;go_wp2_with fail;refine (HB.o AD Am A5 (N7+1+1+1+1) o AR.o (HU.o.trans Aa.o) o_ o_).mono ?_;rintro e AE ⟨rfl,An,A2,A4,AS,Aj,Bm,Bl,B5⟩;have Au:=q_ (Aa.o.trans B5.o);clear x0 x1 x2 x3 x4 x5 x6 x7;have Bs:∀ q ∈ qs,q ∈ A2:=fun q hq=>Aj q (q7 q hq)
 obtain ⟨x0,x1,x2,x3,x4,x5,x6,x7⟩:=KC.o AE An Au.o;go_wp2_with fail;refine (bx_ b F pv A2 A4 o An AE AS.o o_ _ _ _ _ _).mono ?_;rintro e AF ⟨rfl,Ao,AT,B6,_,_⟩;have Av:=q_ (Au.o.trans B6.o);clear x0 x1 x2 x3 x4 x5 x6 x7;obtain ⟨x0,x1,x2,x3,x4,x5,x6,x7⟩:=KC.o AF Ao Av.o;go_wp2_with fail;refine (bx_ b F pv A2 (A4+1) o Ao AF AT.o o_ _ _ _ _ _).mono ?_;rintro e AG ⟨rfl,Ap,AU,B7,_,_⟩;have Aw:=q_ (Av.o.trans B7.o);clear x0 x1 x2 x3 x4 x5 x6 x7;obtain ⟨x0,x1,x2,x3,x4,x5,x6,x7⟩:=KC.o AG Ap Aw.o;go_wp2_with fail;refine (bx_ b F pv A2 (A4+1+1) o Ap AG AU.o o_ _ _ _ _ _).mono ?_;rintro e AH ⟨rfl,Aq,AV,B8,_,_⟩;have Ax:=q_ (Aw.o.trans B8.o);clear x0 x1 x2 x3 x4 x5 x6 x7;obtain ⟨x0,x1,x2,x3,x4,x5,x6,x7⟩:=KC.o AH Aq Ax.o;go_wp2_with fail;refine (bx_ b F pv A2 (A4+1+1+1) o Aq AH AV.o o_ _ _ _ _ _).mono ?_;rintro e AI ⟨rfl,A8,A9,B9,_,_⟩;have Ay:=q_ (Ax.o.trans B9.o);clear x0 x1 x2 x3 x4 x5 x6 x7;obtain ⟨x0,x1,x2,x3,x4,x5,x6,x7⟩:=KC.o AI A8 Ay.o;obtain ⟨v7,y7,AN⟩:=A9.o.cell (j:=7) rfl rfl;obtain ⟨m7,rfl⟩:=AN.int;have Be:=A9.o.fz 7;obtain ⟨Ad,Ak,_⟩:=A9.o.set (j:=7) (v:=i_ (wrap64 (m7 - 1))) rfl rfl (.num _);obtain ⟨AJ,A3⟩:=ex_ (AI.setCell (f_ b 7) (i_ (wrap64 (m7 - 1))));rw [<-A3] at Ad Ak;have AW:=q_ Ad;have Ba:=q_ Ak;clear Ad Ak AN;go_upto_region 23 with fail;rw [<-A3];clear A3 y7 Be;have Az:=q_ (Ay.o.trans Ba.o);clear x0 x1 x2 x3 x4 x5 x6 x7;obtain ⟨x0,x1,x2,x3,x4,x5,x6,x7⟩:=KC.o AJ A8 Az.o;go_wp2_with fail;refine (bx_ b F pv A2 (A4+1+1+1+1) o A8 AJ AW.o o_ _ _ _ _ _).mono ?_;rintro e Ac ⟨rfl,A6,Ar,Bb,_,_⟩;have AA:=q_ (Az.o.trans Bb.o);clear x0 x1 x2 x3 x4 x5 x6 x7;obtain ⟨x0,x1,x2,x3,x4,x5,x6,x7⟩:=KC.o Ac A6 AA.o;go_wp2_with fail;refine (here_g b F pv A2 (A4+1+1+1+1+1) o A6 _ (Ar.o.below ((b_).alloc (l_) _)) o_ _ 1 1 o_ (pl_lit Ar.o (N7+1+1+1) o_)).mono ?_;rintro e Bd ⟨rfl,AX,Ab⟩;have Bc:=q_ ((Up.of_below (Y:=A6) ((Below.refl Ac Ac).alloc (l_) (.cells #[i_ ((N7+1+1+1:Nat):Int)] 3))).trans Ab.out);have AB:=q_ (AA.o.trans Bc.o);clear x0 x1 x2 x3 x4 x5 x6 x7;obtain ⟨x0,x1,x2,x3,x4,x5,x6,x7⟩:=KC.o Bd A6 AB.o;go_wp2_with fail;refine end0 rfl rfl ?_;exact ⟨rfl,(RG.seq (k1:=90+cb) (HU.o.trans AB.o) Bs o_ o_ (RG.zero AX.o (Up.refl _ _))).more o_⟩
section
variable {b F N M o:Nat} {pv:Nat->Value} {qs:List Nat} {G:NP} {w w':World}
theorem GC.far2 {i j g:Nat} {u v:Value} (h:GC b F pv qs N M o G w) (hij:i≠j) (oi:genOw i≠none) (oj:genOw j≠none) (hi10:i<10) (hj10:j<10) (hi:w.cell? (f_ b i)=some u) (hj:w.cell? (f_ b j)=some v) (hu:u.ownBlock=some g):v.ownBlock≠some g:=by
 obtain ⟨C,f,_⟩:=h;have hl:=f.len (i:=0) rfl;have cs:∀ k v,k<10->w.cell? (f_ b k)=some v->(C b)[k]?=some v:=fun k v hk hc=>by
  have A0:k<(C b).length:=by rw [hl];exact hk
  have:=f.cell (i:=0) rfl (ge_ A0);rw [hc] at this;rw [ge_ A0,this]
 exact f.far _ (.head _) _ (.head _) i j u v g (.inr hij) oi oj (cs i u hi10 hi) (cs j v hj10 hj) hu
theorem GC.farq {j g q:Nat} {u v:Value} (h:GC b F pv qs N M o G w) (hq:q ∈ qs) (oj:genOw j≠none) (hj10:j<10) (hc:w.cell? (a_ q)=some u) (hj:w.cell? (f_ b j)=some v) (hu:u.ownBlock=some g):v.ownBlock≠some g:=by
 have A2:q≠b:=by obtain ⟨_,_,_,_,_,_,_,_,_,h⟩:=h.at_own hq;exact h
 obtain ⟨C,f,_⟩:=h;have hl:=f.len (i:=0) rfl;obtain ⟨i,hi⟩:=cr_ (b:=b) (F:=F) (pv:=pv) (N:=N) hq rfl;have A1:j<(C b).length:=by rw [hl];exact hj10
 have h1:=f.cell (i:=0) rfl (ge_ A1);rw [hj] at h1;have A0:0<(C q).length:=by rw [f.len hi];simp
 have h2:=f.cell hi (ge_ A0);rw [hc] at h2;exact f.far _ (List.mem_of_getElem? hi) _ (.head _) 0 j u v g (.inl A2) (fun e=>by cases e) oj (by show (C q)[0]?=some u;rw [ge_ A0,h2]) (by show (C b)[j]?=some v;rw [ge_ A1,h1]) hu
theorem GC.notb {e:List CT} {et:TypeId} {j n c g:Nat} {A:OA} (h:GC b F pv qs N M o G w) (hj:(genT N F pv qs)[j]?=some (.sl e)) (ho:genOw j=some et) (hc:w.cell? (f_ b j)=some (.slice A n c)) (hg:(Value.slice A n c).ownBlock=some g):g≠b/\∀ q ∈ qs,g≠q:=by
 obtain ⟨C,f,_⟩:=h;obtain ⟨e',A2,n2,c2,_,g2,_,_,g5⟩:=f.row _ (.head _) j _ et hj ho;have h1:=f.cell (i:=0) rfl g2;rw [hc] at h1;injection h1 with h1;injection h1 with q1 q2 q3;subst q1 q2 q3;have h5:=(g5 g hg).2.2;exact ⟨fun e=>h5 _ (.head _) e.symm,fun q hq e=>h5 _ (.tail _ (List.mem_map.2 ⟨q,hq,rfl⟩)) e.symm⟩
theorem GC.at_notb {q n c g:Nat} {A:OA} (h:GC b F pv qs N M o G w) (hq:q ∈ qs) (hc:w.cell? (a_ q)=some (.slice A n c)) (hg:(Value.slice A n c).ownBlock=some g):g≠b/\∀ r ∈ qs,g≠r:=by
 obtain ⟨C,f,_⟩:=h;obtain ⟨i,hi⟩:=cr_ (b:=b) (F:=F) (pv:=pv) (N:=N) hq rfl;obtain ⟨e',A2,n2,c2,_,g2,_,_,g5⟩:=f.row _ (List.mem_of_getElem? hi) 0 _ 3 rfl rfl;have h1:=f.cell hi g2;rw [hc] at h1;injection h1 with h1;injection h1 with q1 q2 q3;subst q1 q2 q3;have h5:=(g5 g hg).2.2;exact ⟨fun e=>h5 _ (.head _) e.symm,fun r hr e=>h5 _ (.tail _ (List.mem_map.2 ⟨r,hr,rfl⟩)) e.symm⟩
theorem GC.top {k:Nat} (h:GC b F pv qs N M o G w) (hk:k<o):∃ g c q,w.cell? (f_ b 9)=some (.slice (some (a_ g)) o c)/\w.cell? (f_ g k)=some (pt q)/\q ∈ qs/\g<w/\o<=c:=by
 obtain ⟨A,n,c,hc,_,hO,hG,_,hn⟩:=h.own (j:=9) rfl rfl;obtain rfl:n=o:=hn rfl;obtain ⟨xs,ho,hx⟩:=hO;obtain ⟨g,rfl,_,hg,_⟩:=dr_ ho o_;obtain ⟨u,hu,hv⟩:=hx k 0 _ hk rfl;have:[CT.sat (ptrP qs)].length=1:=rfl;rw [this,Nat.mul_one,Nat.add_zero] at hu;obtain ⟨q,hq,rfl⟩:=hv.sat_of;refine ⟨g,c,q,hc,?_,hq,hg,(ck_ ho).1⟩;rw [ho.cellAt k (by show k<n*1;omega)];exact hu
end
theorem at_row {b F N M o q nq cq:Nat} {pv:Nat->Value} {qs:List Nat} {G:NP} {w:World} {Aq:OA} (h:GC b F pv qs N M o G w) (hq:q ∈ qs) (hc:w.cell? (a_ q)=some (.slice Aq nq cq)) (w':World) (hb:Below w w w'):OwT w' 0 3 [.sat (idxP N)] G (N+1) Aq nq cq:=by
 obtain ⟨A,n,c,h1,_,h2,_⟩:=h.at_own hq;rw [hc] at h1;injection h1 with h1;injection h1 with q1 q2 q3;subst q1 q2 q3;exact h2.below hb
theorem at_no {b F N M o q nq cq:Nat} {pv:Nat->Value} {qs:List Nat} {G:NP} {w:World} {Aq:OA} (h:GC b F pv qs N M o G w) (hq:q ∈ qs) (hc:w.cell? (a_ q)=some (.slice Aq nq cq)):¬Wi G (Value.slice Aq nq cq).ownBlock w:=by
 obtain ⟨A,n,c,h1,_,h2,h3,_⟩:=h.at_own hq;rw [hc] at h1;injection h1 with h1;injection h1 with q1 q2 q3;subst q1 q2 q3;rintro (hx | hx)
 ·exact Nat.lt_irrefl _ (h.lt _ hx)
 exact Nat.lt_irrefl _ (h.lt _ (h3 _ hx))
theorem lit_idx {N:Nat} {w:World} {Y:NP} (i:Nat) (hi:i<N) (h:¬Y w):SlT (w.alloc (.cells #[i_ (i:Int)] 3)) Y (N+1) [.sat (idxP N)] (some (a_ w)) 1 1 :=
 SlT.lit1 (VTs.cons (.sat _ _ rfl ⟨i,rfl,hi⟩) VTs.nil) 3 h o_
theorem at_grown {b F N M o q nq cq g9 c9 k:Nat} {pv:Nat->Value} {qs:List Nat} {G:NP} {w w':World} {Aq:OA} (h:GC b F pv qs N M o G w) (hq:q ∈ qs) (hc:w.cell? (a_ q)=some (.slice Aq nq cq)) {ob:Obj} (hg:(w.alloc ob).grownBy w' (Value.slice Aq nq cq).ownBlock)
  (x9:w.cell? (f_ b 9)=some (.slice (some (a_ g9)) o c9)) (xe:w.cell? (f_ g9 k)=some (pt q)) (hg9:g9<w) :
  w'.cell? (a_ q)=some (.slice Aq nq cq)/\w'.frozen? (a_ q)=false/\w'.cell? (f_ b 9)=some (.slice (some (a_ g9)) o c9)/\w'.cell? (f_ g9 k)=some (pt q):=by
 obtain ⟨A,n,c,h1,_,_,h3,h4,h5,_⟩:=h.at_own hq;rw [hc] at h1;injection h1 with h1;injection h1 with q1 q2 q3;subst q1 q2 q3;have A2:=h.lt _ h5;have A3:=h.blt;have hne:some q≠(Value.slice Aq nq cq).ownBlock:=fun e=>(h.at_notb hq hc e.symm).2 q hq rfl
 have A1:some b≠(Value.slice Aq nq cq).ownBlock:=fun e=>(h.at_notb hq hc e.symm).1 rfl
 have A0:some g9≠(Value.slice Aq nq cq).ownBlock:=fun e=>h.farq hq (j:=9) yg_ o_ hc x9 e.symm rfl
 obtain ⟨g1,g2⟩:=gcell hg;exact ⟨(g1 q 0 zm_ hne).trans ((ak_ _ _ _ _ A2).trans hc),(g2 q 0 zm_ hne).trans ((dv_ _ _ _ _ A2).trans h4),(g1 b 9 zm_ A1).trans ((ak_ _ _ _ _ A3).trans x9),(g1 g9 k zm_ A0).trans ((ak_ _ _ _ _ hg9).trans xe)⟩
theorem ei_int:EI prog 30 3 [.num] 8:=EI.of (z:=i_ 0) underlying30 k_ rfl d_
theorem ei_idx (N:Nat):EI prog 30 3 [.sat (idxP N)] 8:=⟨ei_int.ht,ei_int.hi,Nat.one_pos⟩
theorem put_prot (b F:Nat) (pv:Nat->Value) (qs:List Nat) (N o:Nat) (G:NP) (w:World) (h:GC b F pv qs N N o G w) (hN:N<=10000000000) (g9 c9 q nq cq k:Nat) (Aq:OA) (hq:q ∈ qs)
  (x9:w.cell? (f_ b 9)=some (.slice (some (a_ g9)) o c9)) (xe:w.cell? (f_ g9 k)=some (pt q)) (xq:w.cell? (a_ q)=some (.slice Aq nq cq)) (x0 x1 x2 x3 x4:Int) :
  Calls prog 112 #[.pointer (some (a_ b)),i_ x0,i_ x1,i_ x2,i_ x3,i_ x4] w.drew fun e w1=>e=.returned (i_ (N:Int))/\∃ G2,Hid (GC b F pv qs (N+1) (N+1) o G2 w1)/\Hid (Up w G w1 G2)/\w1.cell? (f_ b 9)=some (.slice (some (a_ g9)) o c9)/\w1.cell? (f_ g9 k)=some (pt q)/\w1.cell? (a_ q)=some (.slice Aq nq cq)/\g9<w1/\b<w1/\q<w1 ∧
   Hid (OwT (w1.alloc (.cells #[i_ (N:Int)] 3)) 0 3 [.sat (idxP (N+1))] G2 (N+2) Aq nq cq)/\Hid (SlT (w1.alloc (.cells #[i_ (N:Int)] 3)) (Wi G2 (Value.slice Aq nq cq).ownBlock) (N+2) [.sat (idxP (N+1))] (some (a_ w1)) 1 1):=by
 have hd:GC b F pv qs N N o G w.drew:=h.below (Below.drew (b_));have A2:q<w:=by obtain ⟨_,_,_,_,_,_,_,_,hG,_⟩:=h.at_own hq;exact h.lt _ hG
 have A0:=h.notb (j:=9) rfl rfl x9 rfl;have A1:g9<w:=by
  obtain ⟨A,n,c,hc,_,hO,hG,_,_⟩:=h.own (j:=9) rfl rfl;rw [x9] at hc;injection hc with hc;injection hc with q1 q2 q3;subst q1;exact h.lt _ (hG _ rfl)
 refine (bx_ b F pv qs N o G w.drew hd hN x0 x1 x2 x3 x4).mono ?_;rintro e w1 ⟨rfl,G2,H2,U2,K2,P2⟩;have y9:w1.cell? (f_ b 9)=some (.slice (some (a_ g9)) o c9):=(K2.o.2 9 o_ o_).trans x9;have yq:w1.cell? (a_ q)=some (.slice Aq nq cq):=(K2.o.1 q hq).trans xq;have ye:w1.cell? (f_ g9 k)=some (pt q):=(P2.o.cell (b:=g9) (o:=k) A1 (by
  rintro (e | ⟨A',c',e1,e2⟩)
  ·exact A0.1 e
  exact hd.far2 (i:=9) (j:=1) o_ yg_ yg_ o_ o_ x9 e1 rfl e2)).trans xe
 have hz:=P2.o.size;have hz:(w:Nat)<=w1:=hz;exact ⟨rfl,G2,H2,q_ ((Up.of_below (Below.drew (b_))).trans U2.o),y9,ye,yq,o_,by have:=h.blt;omega,o_,q_ (at_row H2.o hq yq _ ((b_).alloc (l_) _)),q_ (lit_idx (N:=N+1) N o_ (at_no H2.o hq yq))⟩
theorem protect_g (b F:Nat) (pv:Nat->Value) (qs:List Nat) (N o:Nat) (G:NP) (w:World) (h:GC b F pv qs N N o G w) (hN:N<=10000000000) :
  Calls prog 204 #[.pointer (some (a_ b))] w fun e w'=>e=.returned (.tuple #[])/\RG b F pv qs N o G w 1 w':=by
 have H:=q_ h;by_cases ho0:o=0
 ·subst ho0;obtain ⟨A,n,c,x9,_,_,_,_,hn⟩:=h.own (j:=9) rfl rfl;obtain rfl:n=0:=hn rfl;clear h hn;go_enter func204,ntmps204;go_wp2_with (go_at_call 112;refine (bx_ b F pv qs N 0 G w H.o hN _ _ _ _ _).mono ?_;rintro e w1 hp;obtain rfl:=hp.1;have R1:=q_ (RG.put hp);clear hp);refine end0 rfl rfl ?_;exact ⟨rfl,R1.o⟩
 obtain ⟨g9,c9,q,x9,xe,hq,Ah,Al⟩:=h.top (k:=o - 1) o_;obtain ⟨Aq,nq,cq,xq,Aj,Ac,Ab,fq,A2,Aa⟩:=h.at_own hq;have Am:q<w:=h.lt _ A2;have Ag:=h.blt;have A0:=h.notb (j:=9) rfl rfl x9 rfl;have A4:=q_ x9;have A6:=q_ xe;have A8:=q_ xq;have A9:o<=1000:=by
  obtain ⟨A,n,c,_,hn,_,_,_,Ad⟩:=h.own (j:=9) rfl rfl;obtain rfl:n=o:=Ad rfl;exact hn
 have Ak:(0:Int)<(o:Int):=by omega
 have An:IntKind.i64.wrap ((o - 1:Nat):Int)=((o - 1:Nat):Int):=by rw [IntKind.wrap_i64];omega
 have Ae:(o:Int) - 1=((o - 1:Nat):Int):=by omega
 have Ai:((o - 1:Nat):Int)<(o:Int):=by omega
 clear h Ac Ab A2;go_enter func204,ntmps204;go_upto_region 2 with fail;refine am_ (S:=fun w':World=>w'.cell? (f_ b 9)=some (.slice (some (a_ g9)) o c9)/\w'.cell? ⟨g9,o - 1,none⟩=some (pt q)) rfl ⟨A4.o,A6.o⟩ (fun _=>?_);go_simp;have Af:w.drew.cell? (a_ q)=some (.slice Aq nq cq):=A8.o;clear x9 xe xq;refine aa_ 0 10 ?_;refine aa_ 1 11 ?_;refine aa_ 2 12 ?_;refine aa_ 3 13 ?_;refine aa_ 4 14 ?_;refine aa_ 5 15 ?_;refine aa_ 6 16 ?_;refine aa_ 7 17 ?_;refine aa_ 8 18 ?_;refine aa_ 9 19 ?_;refine aa_ 10 20 ?_;refine aa_ 11 21 ?_;refine aa_ 12 22 ?_;refine aa_ 13 23 ?_;refine aa_ 14 24 ?_;refine aa_ 15 25 ?_;refine aa_ 16 26 ?_;refine aa_ 18 28 ?_;refine wpAnyH_ready (rs:=[17,19]) k_ t_ (AllReadyH.cons rfl (fun K hK=>?_) (AllReadyH.cons rfl (fun K hK=>?_) AllReadyH.nil))
 ·go_simp;clear Af;refine hK.out _ _ ⟨A4.o,A6.o⟩ (fun _=>?_);refine au_ 19 fun K hK=>?_
  go_simp;go_at_call 112;refine (put_prot b F pv qs N o G w H.o hN g9 c9 q nq cq (o - 1) Aq hq A4.o A6.o A8.o _ _ _ _ _).mono ?_;rintro e w1 ⟨rfl,G2,H2,U2,y9,ye,yq,l9,lb,lq,A3,HU⟩;have A7:=q_ H2.o.lt;refine hK.out _ _ ⟨y9,ye⟩ (fun _=>?_);refine au_ 20 fun K hK=>?_
  go_simp;have a9:=(ak_ w1 (.cells #[i_ (N:Int)] 3) b 9 lb).trans y9;have ae:=(ak_ w1 (.cells #[i_ (N:Int)] 3) g9 (o - 1) l9).trans ye;have aq:=(ak_ w1 (.cells #[i_ (N:Int)] 3) q 0 lq).trans yq;refine hK.out _ _ ⟨a9,ae⟩ (fun _=>?_);refine au_ 21 fun K hK=>?_
  refine cz_ rfl (.tmp 27) (.tmp 30) rfl (ei_idx (N+1)) v_ A3.o v_ HU.o (fun k hk=>by have:=A7.o k hk;simp;omega) m_ o_ (Nat.zero_le _) ?_;intro A5 c5 w5 o5 g5 l5;have O5:=q_ o5;have G5:=q_ g5;have L5:=q_ l5;obtain ⟨zq,zf,z9,ze⟩:=at_grown H2.o hq yq g5 y9 ye l9;clear o5 g5 l5;refine hK.out _ _ ⟨z9,ze⟩ (fun _=>?_);refine aa_ 22 32 ?_;refine aw_ 23 k_ rfl (fun K hK=>?_);go_simp;refine hK.out _ _ ⟨(bk_ _ _ _ _ xs_).trans z9,(bk_ _ _ _ _ yz_).trans ze⟩ (fun _=>?_);try simp only [Act.put,sA,s0,s1]
  refine wpAnyH_done k_ ?_ _;obtain ⟨G3,g3,u3⟩:=(H2.o.below (w':=w1.alloc (.cells #[i_ (N:Int)] 3)) ((b_).alloc (l_) _)).at_grow hq ((ak_ _ _ _ _ lq).trans yq) O5.o (show nq+1<=N+1+1 by omega) G5.o L5.o;have A1:=q_ g3;have U3:=q_ (U2.o.trans ((Up.of_below ((Below.refl w1 w1).alloc (l_) (.cells #[i_ (N:Int)] 3))).trans u3));clear g3 u3;go_wp2_with fail;first
   | refine ret0 rfl rfl ?_
   | refine end0 rfl rfl ?_
  exact t1_
 go_simp;go_at_call 112;refine (put_prot b F pv qs N o G w H.o hN g9 c9 q nq cq (o - 1) Aq hq A4.o A6.o A8.o _ _ _ _ _).mono ?_;rintro e w1 ⟨rfl,G2,H2,U2,y9,ye,yq,l9,lb,lq,A3,HU⟩;have A7:=q_ H2.o.lt;refine hK.out _ _ ⟨y9,ye⟩ (fun _=>?_);try simp only [Act.put,sA,s0,s1]
 refine wpAnyH_ready (rs:=[17,20]) k_ t_ (AllReadyH.cons rfl (fun K hK=>?_) (AllReadyH.cons rfl (fun K hK=>?_) AllReadyH.nil))
 ·go_simp;refine hK.out _ _ ⟨y9,ye⟩ (fun _=>?_);refine au_ 20 fun K hK=>?_
  go_simp;have a9:=(ak_ w1 (.cells #[i_ (N:Int)] 3) b 9 lb).trans y9;have ae:=(ak_ w1 (.cells #[i_ (N:Int)] 3) g9 (o - 1) l9).trans ye;have aq:=(ak_ w1 (.cells #[i_ (N:Int)] 3) q 0 lq).trans yq;refine hK.out _ _ ⟨a9,ae⟩ (fun _=>?_);refine au_ 21 fun K hK=>?_
  refine cz_ rfl (.tmp 27) (.tmp 30) rfl (ei_idx (N+1)) v_ A3.o v_ HU.o (fun k hk=>by have:=A7.o k hk;simp;omega) m_ o_ (Nat.zero_le _) ?_;intro A5 c5 w5 o5 g5 l5;have O5:=q_ o5;have G5:=q_ g5;have L5:=q_ l5;obtain ⟨zq,zf,z9,ze⟩:=at_grown H2.o hq yq g5 y9 ye l9;clear o5 g5 l5;refine hK.out _ _ ⟨z9,ze⟩ (fun _=>?_);refine aa_ 22 32 ?_;refine aw_ 23 k_ rfl (fun K hK=>?_);go_simp;refine hK.out _ _ ⟨(bk_ _ _ _ _ xs_).trans z9,(bk_ _ _ _ _ yz_).trans ze⟩ (fun _=>?_);try simp only [Act.put,sA,s0,s1]
  refine wpAnyH_done k_ ?_ _;obtain ⟨G3,g3,u3⟩:=(H2.o.below (w':=w1.alloc (.cells #[i_ (N:Int)] 3)) ((b_).alloc (l_) _)).at_grow hq ((ak_ _ _ _ _ lq).trans yq) O5.o (show nq+1<=N+1+1 by omega) G5.o L5.o;have A1:=q_ g3;have U3:=q_ (U2.o.trans ((Up.of_below ((Below.refl w1 w1).alloc (l_) (.cells #[i_ (N:Int)] 3))).trans u3));clear g3 u3;go_wp2_with fail;first
   | refine ret0 rfl rfl ?_
   | refine end0 rfl rfl ?_
  exact t1_
 go_simp;have a9:=(ak_ w1 (.cells #[i_ (N:Int)] 3) b 9 lb).trans y9;have ae:=(ak_ w1 (.cells #[i_ (N:Int)] 3) g9 (o - 1) l9).trans ye;have aq:=(ak_ w1 (.cells #[i_ (N:Int)] 3) q 0 lq).trans yq;refine hK.out _ _ ⟨a9,ae⟩ (fun _=>?_);refine au_ 17 fun K hK=>?_
 go_simp;refine hK.out _ _ ⟨a9,ae⟩ (fun _=>?_);refine au_ 21 fun K hK=>?_
 refine cz_ rfl (.tmp 27) (.tmp 30) rfl (ei_idx (N+1)) v_ A3.o v_ HU.o (fun k hk=>by have:=A7.o k hk;simp;omega) m_ o_ (Nat.zero_le _) ?_;intro A5 c5 w5 o5 g5 l5;have O5:=q_ o5;have G5:=q_ g5;have L5:=q_ l5;obtain ⟨zq,zf,z9,ze⟩:=at_grown H2.o hq yq g5 y9 ye l9;clear o5 g5 l5;refine hK.out _ _ ⟨z9,ze⟩ (fun _=>?_);refine aa_ 22 32 ?_;refine aw_ 23 k_ rfl (fun K hK=>?_);go_simp;refine hK.out _ _ ⟨(bk_ _ _ _ _ xs_).trans z9,(bk_ _ _ _ _ yz_).trans ze⟩ (fun _=>?_);try simp only [Act.put,sA,s0,s1]
 refine wpAnyH_done k_ ?_ _;obtain ⟨G3,g3,u3⟩:=(H2.o.below (w':=w1.alloc (.cells #[i_ (N:Int)] 3)) ((b_).alloc (l_) _)).at_grow hq ((ak_ _ _ _ _ lq).trans yq) O5.o (show nq+1<=N+1+1 by omega) G5.o L5.o;have A1:=q_ g3;have U3:=q_ (U2.o.trans ((Up.of_below ((Below.refl w1 w1).alloc (l_) (.cells #[i_ (N:Int)] 3))).trans u3));clear g3 u3;go_wp2_with fail;first
  | refine ret0 rfl rfl ?_
  | refine end0 rfl rfl ?_
 exact t1_
theorem ei_ptr (qs:List Nat):EI prog 189 305 [.sat (ptrP qs)] 8:=EI.of (z:=.pointer none) underlying189 k_ rfl Nat.one_pos
theorem lit_ptr {qs:List Nat} {K:Nat} {w:World} {Y:NP} (q:Nat) (hq:q ∈ qs) (h:¬Y w) (hK:1<=K):SlT (w.alloc (.cells #[.pointer (some (a_ q))] 305)) Y K [.sat (ptrP qs)] (some (a_ w)) 1 1 :=
 SlT.lit1 (VTs.cons (.sat _ _ rfl ⟨q,hq,rfl⟩) VTs.nil) 305 h hK
theorem pl_at {b F N o q:Nat} {pv:Nat->Value} {qs:List Nat} {G:NP} {w:World} (h:GC b F pv qs N N o G w) (hq:q ∈ qs):∃ A n c,w.cell? (a_ q)=some (.slice A n c)/\n<=N+1/\Hid (Pl w b N A n):=by
 obtain ⟨A,n,c,h1,hn,h2,h3,_⟩:=h.at_own hq;refine ⟨A,n,c,h1,hn,q_ (fun j hj=>?_)⟩;obtain ⟨xs,ho,hx⟩:=h2;obtain ⟨g,rfl,_,hg,_⟩:=dr_ ho o_;obtain ⟨u,hu,hv⟩:=hx j 0 _ hj rfl;have:[CT.sat (idxP N)].length=1:=rfl;rw [this,Nat.mul_one,Nat.add_zero] at hu;obtain ⟨i,rfl,hi⟩:=hv.sat_of;refine ⟨g,0,i,rfl,hg,?_,hi,fun g' M c' hc e=>?_⟩
 ·rw [Nat.zero_add,ho.cellAt j (by show j<n*1;omega)];exact hu
 subst e;exact h.farq hq (j:=1) yg_ o_ h1 hc rfl rfl
theorem try_g (b F:Nat) (pv:Nat->Value) (o cb:Nat) (qs:List Nat) (N:Nat) (G:NP) (w:World) (h:GC b F pv qs N N o G w) (s f:ByteArray) (kd n op:Int) (E B C:OA) (m c m1 c1 m2 c2:Nat) (ho:o<=900) (hN:N+(20+2*cb)<=10000000000) (hb:LsC b F pv cb w G (o+1) B m1 c1) (hc:LsC b F pv cb w G (o+1) C m2 c2) :
  Calls prog 190 #[.pointer (some (a_ b)),.agg #[i_ kd,.string s,.string f,i_ n,i_ op,.slice E m c,.slice B m1 c1,.slice C m2 c2]] w fun e w'=>e=.returned (.tuple #[])/\RG b F pv qs N o G w (20+2*cb) w':=by
 obtain ⟨W0,Ax,Ai,AR,B0⟩:=ag_ w [i_ kd,.string s,.string f,i_ n,i_ op,.slice E m c,.slice B m1 c1,.slice C m2 c2] 212;have h0:=h.below Ai;have u0:Up w G W0 G:=Up.of_below Ai;have Ay:¬G w:=fun hx=>Nat.lt_irrefl _ (h.lt _ hx)
 have KC:=q_ (stb_up (w:=w) (W:=W0) (G:=G) B0 o_ Ay);obtain ⟨G1,g1,u1⟩:=h0.new_at 30;obtain ⟨W1,Ah⟩:=ex_ (W0.alloc (.cells #[.slice none 0 0] 30));rw [<-Ah] at g1 u1;obtain ⟨A9,n9,c9,y9,Bf,Aw,Av,_,A1⟩:=g1.own (j:=9) rfl rfl;obtain rfl:n9=o:=A1 rfl;have AS:=g1.blt;have B4:=q_ y9;have A6:=q_ ((Below.refl W1 W1).alloc (l_) (.cells #[.pointer (some (a_ W0))] 305));have H1:=q_ (g1.below A6.o);have HO:=h_ (OwT (W1.alloc (.cells #[.pointer (some (a_ W0))] 305)) 0 305 [.sat (ptrP (W0 :: qs))] G1 1000 A9 n9 c9) (Aw.below A6.o);have HL:=h_ (SlT (W1.alloc (.cells #[.pointer (some (a_ W0))] 305)) (Wi G1 (Value.slice A9 n9 c9).ownBlock) 1000 [.sat (ptrP (W0 :: qs))] (some (a_ W1)) 1 1) (lit_ptr W0 (.head _) (fun hx=>by
  rcases hx with hx | hx
  ·exact Nat.lt_irrefl _ (g1.lt _ hx)
  exact Nat.lt_irrefl _ (g1.lt _ (Av _ hx))) o_)
 have Ab:=q_ ((ak_ W1 (.cells #[.pointer (some (a_ W0.heap.size))] 305) b 9 AS).trans y9);have AE:=q_ g1.lt;have AI:=q_ (u0.trans u1);have AJ:=q_ u1;have HB:=q_ hb;have HC:=q_ hc;clear B0 Ai AR h h0 u0 Ay g1 u1 Aw Av A1 hb hc;go_enter func190,ntmps190;go_upto_region 1 with fail;rw [<-Ax];clear Ax;go_upto_region 2 with fail;rw [<-Ah];clear Ah;go_upto_region 3 with (at_builtin;refine cw_ rfl _ _ rfl (ei_ptr (W0.heap.size :: qs)) zb_ HO.o zb_ HL.o (fun k hk=>by have:=AE.o k hk;simp;omega) m_ o_ (Nat.zero_le _) ?_;intro A5 c5 w5 o5 g5 l5;have O5:=q_ o5;have G5:=q_ g5;have L5:=q_ l5;have An:=q_ (H1.o.grown (j:=9) rfl rfl Ab.o g5);have z9:=(An.o.1 9 o_).trans Ab.o;have fy:=An.o.2.1;clear o5 g5 l5 y9);obtain ⟨G2,g2,u2,_⟩:=H1.o.grow (j:=9) rfl rfl Ab.o O5.o (show n9+1<=1000 by omega) G5.o L5.o;obtain ⟨W,hW⟩:=ex_ (w5.setCell (f_ b 9) (.slice A5 (n9+1) c5));rw [<-hW] at g2 u2 ⊢;have H:=h_ (GC b F pv (W0.heap.size :: qs) N N (n9+1) G2 W) (by simpa using g2);have HU:=q_ (AI.o.trans ((Up.of_below A6.o).trans u2));have Ac:=q_ (AJ.o.trans ((Up.of_below A6.o).trans u2));clear g2 u2 hW z9 fy;have KC:=h_ (∀ (w':World) (G':NP),Up W G2 w' G'->StB w' w.heap.size kd s f n op E B C m c m1 c1 m2 c2) (fun w' G' u=>KC.o w' G' (Ac.o.trans u));obtain ⟨x0,x1,x2,x3,x4,x5,x6,x7⟩:=KC.o W G2 (Up.refl _ _);go_wp2_with fail;refine (protect_g b F pv (W0.heap.size :: qs) N (n9+1) G2 W H.o o_).mono ?_;rintro e W1 ⟨rfl,G1,Az,N1,H1,AX,Bb,B6,V1⟩;have U1:=q_ ((q_ (Up.refl W G2)).o.trans V1.o);clear x0 x1 x2 x3 x4 x5 x6 x7;have q1:∀ q ∈ (W0.heap.size :: qs),q ∈ Az:=fun q hq=>AX q ((fun _ h=>h) q hq)
 obtain ⟨x0,x1,x2,x3,x4,x5,x6,x7⟩:=KC.o W1 G1 U1.o;go_wp2_with fail;refine (HB.o W1 G1 Az N1 (n9+1) H1.o (HU.o.trans U1.o) o_ o_).mono ?_;rintro e W2 ⟨rfl,G2,A8,N2,H2,AY,Bc,B7,V2⟩;have U2:=q_ (U1.o.trans V2.o);clear x0 x1 x2 x3 x4 x5 x6 x7;have q2:∀ q ∈ (W0.heap.size :: qs),q ∈ A8:=fun q hq=>AY q (q1 q hq)
 obtain ⟨x0,x1,x2,x3,x4,x5,x6,x7⟩:=KC.o W2 G2 U2.o;obtain ⟨A7,n7,c7,p9,_,Ag,_,_,Aj⟩:=H2.o.own (j:=9) rfl rfl;obtain rfl:n7=n9+1:=Aj rfl;have B5:n9+1<=c7:=by obtain ⟨xs,AW,_⟩:=Ag;exact (ck_ AW).1
 have AF:=q_ Ag;have AG:=q_ p9;obtain ⟨ip,zp,AT,_⟩:=(ei_ptr qs).hi;have Bh:∀ w',(Instr.slice 189 (.slice A7 (n9+1) c7) none (some (i_ (n9:Int))) none).run prog w'=.ok (.slice A7 n9 c7) w':=fun w'=>slice_high underlying189 AT o_ w'
 have AQ:=H2.o.fz 9;have Bi:IntKind.i64.wrap (n9:Int)=(n9:Int):=by rw [IntKind.wrap_i64];omega
 clear Ag Aj;go_upto_region 5 with fail;go_cut [] (fun wx=>∃ G',Hid (GC b F pv A8 N2 N2 n9 G' wx)/\Hid (Up W2 G2 wx G'))
 case first =>
  go_region_law fail;all_goals
   obtain ⟨G',g',u',_⟩:=(H2.o.below (w':=W2.drew) (Below.drew (b_))).grow (j:=9) rfl rfl AG.o (w':=W2.drew) ((AF.o.below (Below.drew (b_))).cut (Nat.le_succ n9)) (show n9<=1000 by omega) ⟨rfl,rfl,rfl,l_,fun _ _ _=>rfl⟩ (fun g hg=>.inl (by cases A7 <;> exact hg));have g2:=h_ (GC b F pv A8 N2 N2 n9 G' _) (by simpa using g');have u2:=q_ ((Up.of_below (Y:=G2) (Below.drew (Below.refl W2 W2))).trans u');clear g' u';go_wp2_with fail;go_meet;exact ⟨G',g2,u2⟩
 case rest =>
 rename World=>W3
 obtain ⟨G3,H3,V3⟩:=hcut;clear p9 AQ;have U3:=q_ (U2.o.trans V3.o);clear x0 x1 x2 x3 x4 x5 x6 x7;obtain ⟨x0,x1,x2,x3,x4,x5,x6,x7⟩:=KC.o W3 G3 U3.o;go_wp2_with fail;refine (protect_g b F pv A8 N2 n9 G3 W3 H3.o o_).mono ?_;rintro e W4 ⟨rfl,G4,Aa,N4,H4,AZ,Bd,B8,V4⟩;have U4:=q_ (U3.o.trans V4.o);clear x0 x1 x2 x3 x4 x5 x6 x7;have q4:∀ q ∈ (W0.heap.size :: qs),q ∈ Aa:=fun q hq=>AZ q (q2 q hq)
 obtain ⟨x0,x1,x2,x3,x4,x5,x6,x7⟩:=KC.o W4 G4 U4.o;go_wp2_with fail;refine (bx_ b F pv Aa N4 n9 G4 W4 H4.o o_ _ _ _ _ _).mono ?_;rintro e W5 ⟨rfl,G5,H5,V5,_,_⟩;have U5:=q_ (U4.o.trans V5.o);clear x0 x1 x2 x3 x4 x5 x6 x7;obtain ⟨x0,x1,x2,x3,x4,x5,x6,x7⟩:=KC.o W5 G5 U5.o;obtain ⟨Aq,nq,cq,xq,Bg,AH⟩:=pl_at H5.o (q4 _ (.head _));go_wp2_with fail;refine (here_g b F pv Aa (N4+1) n9 G5 W5 H5.o o_ Aq nq cq o_ AH.o).mono ?_;rintro e W6 ⟨rfl,H6,V6⟩;clear xq;have U6:=q_ (U5.o.trans V6.o);clear x0 x1 x2 x3 x4 x5 x6 x7;obtain ⟨x0,x1,x2,x3,x4,x5,x6,x7⟩:=KC.o W6 G5 U6.o;go_wp2_with fail;refine (mark_g b F pv Aa (N4+1) n9 G5 W6 H6.o o_).mono ?_;rintro e W7 ⟨rfl,G7,AA,N7,H7,B1,Aj,B9,V7⟩;have U7:=q_ (U6.o.trans V7.o);clear x0 x1 x2 x3 x4 x5 x6 x7;have q7:∀ q ∈ (W0.heap.size :: qs),q ∈ AA:=fun q hq=>B1 q (q4 q hq)
 obtain ⟨x0,x1,x2,x3,x4,x5,x6,x7⟩:=KC.o W7 G7 U7.o;go_wp2_with fail;refine (protect_g b F pv AA N7 n9 G7 W7 H7.o o_).mono ?_;rintro e W8 ⟨rfl,G8,A3,N8,H8,B2,Be,Ba,V8⟩;have U8:=q_ (U7.o.trans V8.o);clear x0 x1 x2 x3 x4 x5 x6 x7;have q8:∀ q ∈ (W0.heap.size :: qs),q ∈ A3:=fun q hq=>B2 q (q7 q hq)
 obtain ⟨x0,x1,x2,x3,x4,x5,x6,x7⟩:=KC.o W8 G8 U8.o;go_wp2_with fail;refine (bx_ b F pv A3 N8 n9 G8 W8 H8.o o_ _ _ _ _ _).mono ?_;rintro e W9 ⟨rfl,G9,H9,V9,_,_⟩;have U9:=q_ (U8.o.trans V9.o);clear x0 x1 x2 x3 x4 x5 x6 x7;obtain ⟨x0,x1,x2,x3,x4,x5,x6,x7⟩:=KC.o W9 G9 U9.o;go_wp2_with fail;refine (fd_ b F pv A3 (N8+1) n9 G9 W9 H9.o _).mono ?_;rintro e As ⟨⟨Bj,rfl⟩,A0⟩;have AB:=q_ (H9.o.below A0);have AL:=q_ (Up.of_below (Y:=G9) A0);clear A0;have Ao:=q_ (U9.o.trans AL.o);clear x0 x1 x2 x3 x4 x5 x6 x7;obtain ⟨x0,x1,x2,x3,x4,x5,x6,x7⟩:=KC.o As G9 Ao.o;go_wp2_with fail;refine (bx_ b F pv A3 (N8+1) n9 G9 As AB.o o_ _ _ _ _ _).mono ?_;rintro e Au ⟨rfl,Al,AC,AM,_,_⟩;have Ad:=q_ (Ao.o.trans AM.o);clear x0 x1 x2 x3 x4 x5 x6 x7;obtain ⟨x0,x1,x2,x3,x4,x5,x6,x7⟩:=KC.o Au Al Ad.o;go_wp2_with fail;refine (HC.o Au Al A3 (N8+1+1) n9 AC.o (HU.o.trans Ad.o) o_ o_).mono ?_;rintro e Af ⟨rfl,A4,A2,AK,Am,Ak,AV,AU,AN⟩;have Ap:=q_ (Ad.o.trans AN.o);clear x0 x1 x2 x3 x4 x5 x6 x7;have B3:∀ q ∈ (W0.heap.size :: qs),q ∈ A2:=fun q hq=>Ak q (q8 q hq)
 obtain ⟨x0,x1,x2,x3,x4,x5,x6,x7⟩:=KC.o Af A4 Ap.o;go_wp2_with fail;refine (here_g b F pv A2 AK n9 A4 _ (Am.o.below ((b_).alloc (l_) _)) o_ _ 1 1 o_ (pl_lit Am.o N4 o_)).mono ?_;rintro e AP ⟨rfl,AD,Ae⟩;have AO:=q_ ((Up.of_below (Y:=A4) ((Below.refl Af.heap.size Af).alloc (l_) (.cells #[i_ ((N4:Nat):Int)] 3))).trans Ae.out);have Ar:=q_ (Ap.o.trans AO.o);clear x0 x1 x2 x3 x4 x5 x6 x7;obtain ⟨x0,x1,x2,x3,x4,x5,x6,x7⟩:=KC.o AP A4 Ar.o;go_wp2_with fail;refine end0 rfl rfl ?_;exact ⟨rfl,(RG.seq (k1:=20+2*cb) (HU.o.trans Ar.o) (fun q hq=>B3 q (.tail _ hq)) o_ o_ (RG.zero AD.o (Up.refl _ _))).more o_⟩
def Pr (b:Nat) (J:NP) (w:World) (Y:NP) (C:Nat->VL) (w':World) (Y':NP) (C':Nat->VL):Prop:=Up w Y w' Y'/\(∀ q,q≠b->q<w->C' q=C q)/\∀ j,J j->(C' b)[j]?=(C b)[j]?
def Lc (w:World) (Y:NP) (q:Nat) (cs:VL):Prop:=Bx w q cs/\¬Y q
section
variable {X Z Y Y' Y2 J J':NP} {w0 w w' w2:World} {LL:List LV} {b q K L:Nat} {l:List In} {pc:Int} {C C' C2:Nat->VL} {cs:VL}
theorem Pr.refl (b:Nat) (J:NP) (w:World) (Y:NP) (C:Nat->VL):Pr b J w Y C w Y C:=⟨Up.refl _ _,fun _ _ _=>rfl,fun _ _=>rfl⟩
theorem Pr.trans (h:Pr b J w Y C w' Y' C') (h2:Pr b J' w' Y' C' w2 Y2 C2) (hJ:∀ j,J j->J' j):Pr b J w Y C w2 Y2 C2 :=
 ⟨h.1.trans h2.1,fun q hq A0=>(h2.2.1 q hq (lt_ A0 h.1.kp.size)).trans (h.2.1 q hq A0),fun j hj=>(h2.2.2 j (hJ j hj)).trans (h.2.2 j hj)⟩
theorem Pr.below (h:Pr b J w Y C w' Y' C') (hb:Below w' w' w2):Pr b J w Y C w2 Y' C':=⟨h.1.trans (.of_below hb),h.2.1,h.2.2⟩
theorem Pr.ms (h:Pr b J w Y C w' Y' C') (hs:OneS X Z w0 LL b K L l pc Y' C' w'):Ms X Z w0 LL b K L l pc Y C w w' J:=⟨Y',C',hs,h.1,h.2.1,h.2.2⟩
theorem Lc.up (h:Lc w Y q cs) (u:Up w Y w' Y'):Lc w' Y' q cs:=⟨h.1.kp u.kp h.2,u.no q h.1.1 h.2⟩
theorem Lc.cell {j:Nat} {v:Value} (h:Lc w Y q cs) (hv:cs[j]?=some v):w.cell? (f_ q j)=some v:=h.1.2.1 j v hv
theorem mv_kind {l:List In} {pc kd:Int} {vs:VL} (h:vs[38]?=some (i_ kd)) (hk:1<=kd/\kd<=3):Mv l pc vs:=fun k p h1 _ _=>by
 rw [h] at h1;injection h1 with h1;injection h1 with _ h1;exact .inl o_
theorem mv_mark {l:List In} {pc p0:Int} {vs:VL} (h:vs[39]?=some (i_ p0)) (hm:opAt l p0=21):Mv l pc vs:=fun k p _ h2 _=>by
 rw [h] at h2;injection h2 with h2;injection h2 with _ h2;subst h2;exact .inr (.inr hm)
theorem cj_ {l:List In} {pc:Int} {vs us:VL} (hm:Mv l pc vs) (e38:us[38]?=vs[38]?) (e39:us[39]?=vs[39]?) (e81:us[81]?=vs[81]?):Mv l pc us:=fun k p h1 h2 h3=>by
 rw [e38] at h1;rw [e39] at h2;rw [e81] at h3;exact hm k p h1 h2 h3
theorem OneS.set {t:CT} {v:Value} {j:Nat} (h:OneS X Z w0 LL b K L l pc Y C w) (hj:oneT[j]?=some t) (ho:dj_ j=none) (h4:4<=j) (hv:VT w Y (oneK K L j) t v) (hm:Mv l pc (C b)->Mv l pc ((C b).set j v)) :
  OneS X Z w0 LL b K L l pc Y (upd C b ((C b).set j v)) (w.setCell (f_ b j) v)/\Pr b (fun i=>i≠j) w Y C (w.setCell (f_ b j) v) Y (upd C b ((C b).set j v)):=by
 obtain ⟨f,u⟩:=h.fr.set (i:=0) (j:=j) (t:=t) (v:=v) rfl hj ho hv;refine ⟨h.go f u (fun i hi=>?_) (fun h=>?_),u,fun q hq _=>ad_ _ _ hq,fun i hi=>?_⟩
 ·rw [upd_same,gs_,if_neg o_]
 ·rw [upd_same];exact hm h
 rw [upd_same,gs_,if_neg (fun e=>hi e.symm)]
theorem OneS.setCpu {vs:VL} (h:OneS X Z w0 LL b K L l pc Y C w) (hv:VTs w Y 0 cpuT vs) (hm:Mv l pc (C b)->Mv l pc (splice (C b) 39 vs)) :
  OneS X Z w0 LL b K L l pc Y (upd C b (splice (C b) 39 vs)) (w.setCells b 39 vs)/\Pr b (fun i=>i<39\/72<=i) w Y C (w.setCells b 39 vs) Y (upd C b (splice (C b) 39 vs)):=by
 obtain ⟨f,u⟩:=h.fr.part (i:=0) (o:=39) (N:=0) (us:=cpuT) (vs:=vs) rfl rfl d_ hv (fun j h1 h2=>⟨Nat.zero_le _,by
  have:j<72:=h2
  show dj_ j=none
  unfold dj_
  rw [if_neg o_]⟩)
 have hl:(C b).length=82:=h.fr.len (i:=0) rfl;have A1:vs.length=33:=hv.1;have out:∀ i,i<39\/72<=i->(splice (C b) 39 vs)[i]?=(C b)[i]?:=fun i hi=>by
  unfold splice;have A0:((C b).take 39).length=39:=by rw [List.length_take,hl];decide
  rcases hi with hi | hi
  ·exact u0_
  rw [List.getElem?_append_right z9_,A0,List.getElem?_append_right (by rw [A1];omega),A1,List.getElem?_drop]
  congr 1;omega
 refine ⟨h.go f u (fun i hi=>?_) (fun h=>?_),u,fun q hq _=>ad_ _ _ hq,fun i hi=>?_⟩
 ·rw [upd_same];exact out i o_
 ·rw [upd_same];exact hm h
 rw [upd_same];exact out i hi
theorem splice_pc {vs cs:VL} {p:Int} (hl:cs.length=82) (h:vs[0]?=some (i_ p)):(splice cs 39 vs)[39]?=some (i_ p):=by
 unfold splice;have A0:(cs.take 39).length=39:=by rw [List.length_take,hl];decide
 rw [List.getElem?_append_right z9_,A0,List.getElem?_append_left (by have:=(e_ h).1;omega)];exact h
theorem vts_cpu0 {X:NP} {w:World} {K:Nat} {vs:VL} (h:VTs w X K cpuT vs):VTs w X 0 cpuT vs:=by
 have A0:∀ t ∈ cpuT,t=CT.num\/t=CT.tru:=by simp [cpuT,regsT]
 refine ⟨h.1,fun j t hj=>?_⟩;obtain ⟨u,hu,hv⟩:=h.2 j t hj;rcases A0 t (List.mem_of_getElem? hj) with rfl | rfl
 ·obtain ⟨n,rfl⟩:=hv.int;exact ⟨_,hu,.num _⟩
 obtain ⟨n,rfl⟩:=hv.bool;exact ⟨_,hu,.tru _⟩
def row33 (w:World) (b o:Nat):Array Value:=((List.range 33).map fun j=>(w.cell? ⟨b,o+j,none⟩).getD undef).toArray
def row33V (w:World):Value->Array Value
 | .pointer (some ⟨b,o,none⟩)=>row33 w b o
 | _=>#[]
def dg_ (w:World) (v:Value):Prop:=∃ b o,∃ vs:VL,v=.pointer (some (f_ b o))/\vs.length=33/\w.rangeAt b o vs
theorem row33_at {w:World} {b o:Nat} {vs:VL} (hl:vs.length=33) (h:w.rangeAt b o vs):row33 w b o=vs.toArray:=by
 unfold row33
 congr 1
 apply List.ext_getElem?;intro j;by_cases hj:j<33
 ·exact tg_
 rw [List.getElem?_eq_none zm_,List.getElem?_eq_none o_]
theorem exec33 (ρ:Operand->Value) (x:Operand) (d:Option Nat) (ty:TypeId) (pos:String) (af:Array Edge) (gd:Option (Nat × Bool)) (w:World) (h:dg_ w (ρ x)) :
  Sem.run prog (execOp ρ { dst:=d,op:=.load 62 x,type:=ty,pos:=pos,after:=af,guard:=gd }) w=.ok (.value (.agg (row33V w (ρ x)))) w:=by
 obtain ⟨b,o,vs,hv,hl,ht⟩:=h;have h1:=run_loadAt_mid (P:=prog) w b o _ vs _ ht underlying62 rfl (by rw [hl];kernel_rfl);unfold execOp;simp only [hv,Sem.run_bind,h1,Result.andThen_ok,Sem.run_pure,row33V,row33_at hl ht]
theorem cpu_row {cs ds:VL} (h:Bx w b ds) (hl:ds.length=82) (e:∀ j,3<=j->j<36->ds[j]?=cs[j]?):dg_ w (.pointer (some (f_ b 3)))/\row33V w (.pointer (some (f_ b 3)))=((cs.drop 3).take 33).toArray:=by
 have hr:=h.range 3 33;have e2:(ds.drop 3).take 33=(cs.drop 3).take 33:=by
  apply List.ext_getElem?;intro j;rw [List.getElem?_take,List.getElem?_take,List.getElem?_drop,List.getElem?_drop];split
  ·exact e (3+j) o_ o_
  rfl
 have A0:((ds.drop 3).take 33).length=33:=by rw [List.length_take,List.length_drop,hl];decide
 refine ⟨⟨b,3,_,rfl,A0,hr⟩,?_⟩;show row33 w b 3=_
 rw [row33_at A0 hr,e2]
end
end Go.Proofs.YtfolidlmgfhkiaaGreat
namespace Go.Proofs.YtfolidlmgfhkiaaGreat
open Go.RowKit Go.Proofs.Tryz
attribute [local go_sem ↓] exec33
def cpuV (p:Int):VL:=i_ p :: regsT.map CT.zero
theorem cpuV_eq (p:Int):cpuV p=[i_ p,.bool false,i_ 0,.bool false,i_ 0,.bool false,i_ 0,.bool false,i_ 0,.bool false,i_ 0,.bool false,i_ 0,.bool false,i_ 0,.bool false,i_ 0,.bool false,i_ 0,.bool false,i_ 0,.bool false,i_ 0,.bool false,i_ 0,.bool false,i_ 0,.bool false,i_ 0,.bool false,i_ 0,.bool false,i_ 0]:=rfl
theorem vts_cpuV {X:NP} {w:World} {K:Nat} (p:Int):VTs w X K cpuT (cpuV p):=VTs.cons (.num _) (bb_ K regsT)
theorem isz_cpuV (p:Int):(prog.info? 62).map (·.size)=some (cpuV p).length:=isz_62
def JT:NP:=fun j=>j<38\/(74<=j/\j<=76)
theorem throw_m {X Z Y:NP} {w0:World} {LL:List LV} {b K L:Nat} {l:List In} {pc:Int} {C:Nat->VL} (w:World) (h:OneS X Z w0 LL b K L l pc Y C w) (hK:K<=1000000000) (hL:L<=10000) (v:Val) :
  Calls prog 123 #[.pointer (some (a_ b)),.agg #[.bool v.ref,i_ v.n]] w fun e w'=>e=.returned (.tuple #[])/\Ms X Z w0 LL b K (L+5) l pc Y C w w' JT:=by
 obtain ⟨W,hW,Ag,AH,W0⟩:=ag_ w [.bool v.ref,i_ v.n] 38;have H0:=q_ (h.call Ag);have V0:=h_ (Lc W Y w [.bool v.ref,i_ v.n]) (⟨W0,fun hy=>Nat.lt_irrefl _ (h.fr.lt _ hy)⟩);have P0:=q_ ((Pr.refl b JT w Y C).below Ag);have AW:=h.fr.blt (i:=0) rfl;clear h Ag AH W0;go_enter func123,ntmps123;go_upto_region 1 with fail;rw [<-hW];clear hW;go_wp2_with fail;refine (frame_m W H0.o hK o_).mono ?_;rintro e W1 ⟨⟨f,fn,rfl⟩,Y1,C1,h1,p1⟩;have H1:=q_ h1;have V1:=q_ (V0.o.up p1.1);have P1:=q_ (P0.o.trans p1 (fun j hj=>by rcases hj with hj | hj <;> (constructor <;> omega)));obtain ⟨bk,AQ,_⟩:=h1.fr.tru (i:=0) rfl (j:=81) rfl rfl;clear h1 p1;cases bk
 case true =>
  go_wp2;refine ret0 zc_ rfl ?_;exact ⟨rfl,P1.o.ms (H1.o.raise o_)⟩
 go_wp2_with fail;refine (dx_ W1 H1.o hK o_ f 2).mono ?_;rintro e W2 ⟨⟨⟨hr,hn⟩,rfl⟩,Y2,C2,h2,p2⟩;obtain ⟨V,hV,A8,AG,V3⟩:=ag_ W2 [.bool hr,i_ hn] 38;have H2:=q_ (h2.call A8);have V2:=q_ ((V1.o.up p2.1).up (Up.of_below A8));have P2:=q_ ((P1.o.trans p2 (fun j hj=>by rcases hj with hj | hj <;> (constructor <;> omega))).below A8);have HN:=h_ (Lc V Y2 W2 [.bool hr,i_ hn]) (⟨V3,fun hy=>Nat.lt_irrefl _ (h2.fr.lt _ hy)⟩);obtain ⟨bk,AB,A3⟩:=H2.o.fr.tru (i:=0) rfl (j:=81) rfl rfl;have Ab:=q_ A3;have fb:=H2.o.fr.fz (i:=0) rfl;have n0:=HN.o.cell (j:=0) rfl;have n1:=HN.o.cell (j:=1) rfl;have AV:b<V:=H2.o.fr.blt (i:=0) rfl;have AX:W2≠b:=by have:=h2.fr.blt (i:=0) rfl;omega
 clear h2 p2 A8 AG V3 AQ A3;go_upto_region 4 with fail;rw [<-hV];clear hV;cases hr
 case true =>
  go_wp2_with fail;go_quiet (fail);go_wp2;refine ret0 zc_ rfl ?_;obtain ⟨Y3,C3,h3,u3,q3,j3⟩:=(H2.o.call (below_drewN (b_) nq)).set81 (bk:=bk) Ab.o true (fun _=>rfl);exact ⟨rfl,(((P2.o.below (below_drewN (b_) nq)).trans ⟨u3,q3,j3⟩ (fun j hj=>by rcases hj with hj | hj <;> omega)).ms (h3.raise o_))⟩
 by_cases hz:hn=0
 ·subst hz;go_wp2_with fail;go_quiet (fail);go_wp2_with fail;refine (dx_ (V.drewN nq) (H2.o.call (below_drewN (b_) nq)) hK o_ f 0).mono ?_;rintro e W3 ⟨⟨⟨pr,pn⟩,rfl⟩,Y3,C3,h3,p3⟩;obtain ⟨U,hU,A7,AF,U3⟩:=ag_ W3 [.bool pr,i_ pn] 38;have H3:=q_ (h3.call A7);have V3:=q_ (((V2.o.up (Up.of_below (below_drewN (b_) nq))).up p3.1).up (Up.of_below A7));have P3:=q_ (((P2.o.below (below_drewN (b_) nq)).trans p3 (fun j hj=>by rcases hj with hj | hj <;> (constructor <;> omega))).below A7);have Au:=h_ (Lc U Y3 W3 [.bool pr,i_ pn]) (⟨U3,fun hy=>Nat.lt_irrefl _ (h3.fr.lt _ hy)⟩);obtain ⟨AD,Aa,A3⟩:=H3.o.fr.tru (i:=0) rfl (j:=81) rfl rfl;have Ac:=q_ A3;have Aw:=H3.o.fr.fz (i:=0) rfl;have m0:=Au.o.cell (j:=0) rfl;have m1:=Au.o.cell (j:=1) rfl;clear h3 p3 A7 AF U3 A3 n0 n1 AB fb;go_upto_region 11 with fail;rw [<-hU];clear hU;cases pr
  case false =>
   go_wp2;refine ret0 zc_ rfl ?_;obtain ⟨Y4,C4,h4,u4,q4,j4⟩:=H3.o.set81 (bk:=AD) Ac.o true (fun _=>rfl);exact ⟨rfl,((P3.o.trans ⟨u4,q4,j4⟩ (fun j hj=>by rcases hj with hj | hj <;> omega)).ms (h4.raise o_))⟩
  by_cases hp:pn=0
  ·subst hp;clear Aa Aw;go_upto_region 14 with fail;obtain ⟨sv,A9⟩:=ex_ (((C3 b).drop 3).take 33);have Ah:(C3 b).length=82:=H3.o.fr.len (i:=0) rfl;have JQ:=h_ (∀ j:Nat,j<38\/72<=j->True) (fun _ _=>trivial);have L0:=q_ V3.o;have KS:=h_ (∀ (w':World) (C':Nat->VL) {Y':NP} {L':Nat},Fr X Z w0 (oneL b K L' :: LL) Y' C' w'->Lc w' Y' w [.bool v.ref,i_ v.n]->(∀ j,3<=j->j<36->(C' b)[j]?=(C3 b)[j]?)->(dg_ w' (.pointer (some (f_ b 3)))/\row33V w' (.pointer (some (f_ b 3)))=sv.toArray/\w'.cell? (a_ w)=some (.bool v.ref)/\w'.cell? (f_ w 1)=some (i_ v.n))) (fun w' C' Y' L' hf Az he=>by
    obtain ⟨a1,a2⟩:=cpu_row (hf.box (i:=0) rfl) (hf.len (i:=0) rfl) he
    exact ⟨a1,by rw [A9];exact a2,Az.cell rfl,Az.cell rfl⟩)
   have A0:VTs U Y3 0 cpuT sv:=vts_cpu0 (K:=K) ⟨by rw [A9,List.length_take,List.length_drop,Ah];rfl,fun j t hj=>by
    have A4:j<33:=(e_ hj).1
    have Aj:oneT[3+j]?=some t:=by
     have:oneT=[.sl ay_,.num,.num] ++ (cpuT ++ ([.sl objT,.num] ++ effT ++ [.tru])):=rfl
     rw [this,List.getElem?_append_right t_,List.getElem?_append_left (by simpa [show ([.sl ay_,.num,.num]:List CT).length=3 from rfl] using (show j<cpuT.length from A4))]
     simpa using hj
    obtain ⟨u,q1,q2,q3⟩:=H3.o.fr.get (i:=0) rfl Aj (show dj_ (3+j)=none by unfold dj_;rw [if_neg o_])
    exact ⟨u,by rw [A9,List.getElem?_take,if_pos A4,List.getElem?_drop];exact q1,by have:oneK K (L+1+1+1) (3+j)=K:=by { unfold oneK;rw [if_neg o_] };rw [this] at q3;exact q3⟩⟩
   have A1:=H3.o.call (Below.drew (Below.refl U U));have Ak:=(Pr.refl b JT U Y3 C3).below (Below.drew (Below.refl U U));obtain ⟨AM,AL,_⟩:=A1.fr.num (i:=0) rfl (j:=38) rfl rfl;obtain ⟨Ap,AN,_⟩:=A1.fr.tru (i:=0) rfl (j:=78) rfl rfl;obtain ⟨Aq,AO,_⟩:=A1.fr.tru (i:=0) rfl (j:=79) rfl rfl;obtain ⟨Ar,AP,_⟩:=A1.fr.num (i:=0) rfl (j:=80) rfl rfl;have AS:=A1.fr.fz (i:=0) rfl;have AZ:U.cell? (f_ b 78)=some (.bool Ap):=AN;have B0:U.cell? (f_ b 79)=some (.bool Aq):=AO;have B1:U.cell? (f_ b 80)=some (i_ Ar):=AP;have AT:=H3.o.fr.fz (i:=0) rfl;obtain ⟨Ae,Al⟩:=A1.set (j:=38) (t:=.num) (v:=i_ 2) rfl rfl d_ (.num _) (fun _=>mv_kind (kd:=2) z0_ d_);obtain ⟨Af,Am⟩:=Ae.set (j:=78) (t:=.tru) (v:=.bool true) rfl rfl d_ (.tru _) (fun hm=>cj_ hm ze_ ze_ ze_);obtain ⟨Ax,An⟩:=Af.set (j:=79) (t:=.tru) (v:=.bool v.ref) rfl rfl d_ (.tru _) (fun hm=>cj_ hm ze_ ze_ ze_);obtain ⟨A2,Ao⟩:=Ax.set (j:=80) (t:=.num) (v:=i_ v.n) rfl rfl d_ (.num _) (fun hm=>cj_ hm ze_ ze_ ze_);have A6:=A0.go (((((Ak.1).trans Al.1).trans Am.1).trans An.1).trans Ao.1) (Nat.le_refl 0);have AI:=A2.mv;obtain ⟨Ay,AA⟩:=A2.setCpu (vs:=sv) A6 (fun _=>mv_kind (kd:=2) (by
    rw [upd_same,upd_same,upd_same,upd_same]
    unfold splice
    rw [List.getElem?_append_left (by rw [List.length_take];simp [Ah]),List.getElem?_take,if_pos d_,gs_,if_neg d_,gs_,if_neg d_,gs_,if_neg d_,gs_,if_pos rfl,if_pos o_]) d_)
   have HT:=q_ (A2.fr.there (i:=0) rfl (o:=39) (n:=sv.length) (by rw [A0.1];decide));have HI:=h_ ((prog.info? 62).map (·.size)=some sv.length) (by rw [A0.1];exact isz_62);have HO:=q_ A0;have hJ:∀ (k:Nat),(k=38\/(77<=k/\k<=80))->∀ j,JT j->j≠k:=fun k hk j hj=>by rcases hj with hj | hj <;> omega
   have p0:=h_ (Pr b JT U Y3 C3 _ _ _) Ak;have p1:=q_ (p0.o.trans Al (hJ 38 o_));have p2:=q_ (p1.o.trans Am (hJ 78 o_));have p3:=q_ (p2.o.trans An (hJ 79 o_));have p4:=q_ (p3.o.trans Ao (hJ 80 o_));have p5:=q_ (p4.o.trans AA (fun j hj=>by rcases hj with hj | hj;exact .inl o_;exact .inr o_));have g0:=q_ A1;have g1:=q_ Ae;have g2:=q_ Af;have g4:=q_ A2;have g5:=q_ Ay;have AR:=H3;clear A1 Ae Af Ax A2 Ay Ak Al Am An Ao AA A0 A6 AI A9 Ah m0 m1 hJ
   -- region 14
   refine am_ (S:=fun w':World=>dg_ w' (.pointer (some (f_ b 3)))/\row33V w' (.pointer (some (f_ b 3)))=sv.toArray/\w'.cell? (a_ w)=some (.bool v.ref)/\w'.cell? (f_ w 1)=some (i_ v.n)) rfl (KS.o _ _ g0.o.fr (Lc.up L0.o p0.o.1) (fun j h1 h2=>p0.o.2.2 j (.inl o_))) (fun hHeld=>?_);go_simp;refine aa_ 0 69 ?_;refine aa_ 1 70 ?_;refine aa_ 2 71 ?_;refine aa_ 3 72 ?_;refine aa_ 4 73 ?_;refine aa_ 5 74 ?_;refine aa_ 6 75 ?_;refine aa_ 7 76 ?_;refine aa_ 8 77 ?_;refine aa_ 9 78 ?_;refine aa_ 10 79 ?_;refine aa_ 11 80 ?_;refine aw_ 12 k_ rfl (fun K hK=>?_);go_simp;refine hK.out _ _ (KS.o _ _ g1.o.fr (Lc.up L0.o p1.o.1) (fun j h1 h2=>p1.o.2.2 j (.inl o_))) (fun hHeld=>?_);refine aa_ 13 81 ?_;refine aa_ 14 82 ?_;refine aa_ 15 83 ?_;refine aw_ 16 k_ rfl (fun K hK=>?_);go_simp;refine hK.out _ _ (KS.o _ _ g2.o.fr (Lc.up L0.o p2.o.1) (fun j h1 h2=>p2.o.2.2 j (.inl o_))) (fun hHeld=>?_);refine aa_ 17 84 ?_;refine aa_ 18 85 ?_;refine aa_ 19 86 ?_;refine aw_ 20 k_ rfl (fun K hK=>?_);go_simp;refine hK.out _ _ (KS.o _ _ g4.o.fr (Lc.up L0.o p4.o.1) (fun j h1 h2=>p4.o.2.2 j (.inl o_))) (fun hHeld=>?_);refine aa_ 21 87 ?_;refine aa_ 22 88 ?_;refine aa_ 23 89 ?_;refine aw_ 24 k_ rfl (fun K hK=>?_);rw [if_pos zc_];refine wp_store_mid 62 (.tmp 89) (.tmp 77) rfl b 39 sv.toArray v_ v_ wl_ wm_ (by simpa using HO.o.one) ?_;refine hK.out _ _ (KS.o _ _ g5.o.fr (Lc.up L0.o p5.o.1) (fun j h1 h2=>p5.o.2.2 j (.inl o_))) (fun hHeld=>?_);try simp only [Act.put,sA,s0,s1]
   refine wpAnyH_done k_ ?_ _;go_wp2;refine ret0 zc_ rfl ?_;exact ⟨rfl,(P3.o.trans p5.o (fun j hj=>hj)).ms (g5.o.raise o_)⟩
   -- end 14
  clear Aa Aw;go_wp2_with fail;refine (ej_ U H3.o o_ 1 0 ⟨true,pn⟩).mono ?_;rintro e W4 ⟨rfl,Y4,C4,h4,p4⟩;have H4:=q_ h4;have V4:=q_ (V3.o.up p4.1);have P4:=q_ (P3.o.trans p4 (fun j hj=>by rcases hj with hj | hj <;> omega));have v0:=V4.o.cell (j:=0) rfl;have v1:=V4.o.cell (j:=1) rfl;clear h4 p4 m0 m1;go_wp2_with fail;refine (ej_ W4 H4.o o_ 1 2 v).mono ?_;rintro e W5 ⟨rfl,Y5,C5,h5,p5⟩;have P5:=q_ (P4.o.trans p5 (fun j hj=>by rcases hj with hj | hj <;> omega));obtain ⟨A,n,c,cv,cs,k0,k1,k2,k3,k4⟩:=h5.code;have x2:=h5.fr.cell (i:=0) rfl k2;obtain ⟨kd,AL,_⟩:=h5.fr.num (i:=0) rfl (j:=38) rfl rfl;obtain ⟨si,AY,_⟩:=h5.fr.num (i:=0) rfl (j:=77) rfl rfl;have AU:=h5.fr.fz (i:=0) rfl;have A5:(C5 b).length=82:=h5.fr.len (i:=0) rfl;obtain ⟨h6,p6⟩:=h5.set (j:=38) (t:=.num) (v:=i_ 1) rfl rfl d_ (.num _) (fun _=>mv_kind (kd:=1) z0_ d_);obtain ⟨h7,p7⟩:=h6.set (j:=77) (t:=.num) (v:=i_ cs) rfl rfl d_ (.num _) (fun hm=>cj_ hm ze_ ze_ ze_);obtain ⟨h8,p8⟩:=h7.setCpu (vs:=cpuV (-1)) (vts_cpuV _) (fun _=>mv_kind (kd:=1) (by
   rw [upd_same,upd_same]
   unfold splice
   rw [List.getElem?_append_left (by rw [List.length_take,List.length_set,List.length_set,A5];decide),List.getElem?_take,if_pos d_,gs_,if_neg d_,gs_,if_pos rfl,if_pos o_]) d_)
  have HT:=q_ (h7.fr.there (i:=0) rfl (o:=39) (n:=(cpuV (-1)).length) d_);have HO:=h_ (VTs W5 Y5 0 cpuT (cpuV (-1))) (vts_cpuV _);have H8:=q_ h8;have P8:=q_ (((P5.o.trans p6 (fun j hj=>by rcases hj with hj | hj <;> omega)).trans p7 (fun j hj=>by rcases hj with hj | hj <;> omega)).trans p8 (fun j hj=>by rcases hj with hj | hj;exact .inl o_;exact .inr o_));clear h5 p5 k0 k1 k2 k3 k4 A5 h6 p6 h7 p7 h8 p8 v0 v1;go_wp2_with (with_reducible refine ab_ rfl 62 (.tmp 113) (.tmp 104) rfl (cpuV (-1)) w_ (by simp [Act.eval,Act.put,cpuV_eq]) HT.o (isz_cpuV _) HO.o.one ?_);exact tj_
 obtain ⟨A,n,c,cv,cs,k0,k1,k2,k3,k4⟩:=H2.o.code;have x0:=H2.o.fr.cell (i:=0) rfl k0;have x1:=H2.o.fr.cell (i:=0) rfl k1;have x2:=H2.o.fr.cell (i:=0) rfl k2;have K3:=q_ k3;have K0:=q_ (And.intro k0 (And.intro k1 k2));clear k0 k1 k2 k3;have Av:=h_ (∀ w',Below V V w'->(w'.cell? (a_ b)=some (.slice A n c)/\w'.cell? (f_ b 1)=some (i_ cv)/\w'.cell? (f_ b 2)=some (i_ cs)/\w'.cell? (a_ W2)=some (.bool false)/\w'.cell? (f_ W2 1)=some (i_ hn))) (fun w' hb=>⟨(H2.o.call hb).fr.cell (i:=0) rfl K0.o.1,(H2.o.call hb).fr.cell (i:=0) rfl K0.o.2.1,(H2.o.call hb).fr.cell (i:=0) rfl K0.o.2.2,(HN.o.up (Up.of_below hb)).cell rfl,(HN.o.up (Up.of_below hb)).cell rfl⟩);have hd:@bne Int (@instBEqOfDecidableEq Int Int.instDecidableEq) hn 0=true:=by show (!decide (hn=0))=true;simp [hz]
 clear x0 x1 x2 n0 n1 AB fb
 -- region 4
 refine am_ (S:=fun w':World=>w'.cell? (a_ b)=some (.slice A n c)/\w'.cell? (f_ b 1)=some (i_ cv)/\w'.cell? (f_ b 2)=some (i_ cs)/\w'.cell? (a_ W2)=some (.bool false)/\w'.cell? (f_ W2 1)=some (i_ hn)) rfl (Av.o _ (Below.drew (b_))) (fun hHeld=>?_);go_simp;refine aa_ 0 20 ?_;refine aa_ 1 21 ?_;refine aa_ 2 22 ?_;refine aa_ 3 23 ?_;refine aa_ 4 24 ?_;refine aa_ 5 25 ?_;try simp only [hd]
 refine aa_ 6 26 ?_;refine aa_ 7 27 ?_;refine aa_ 8 28 ?_;refine aa_ 9 29 ?_;refine aa_ 10 30 ?_;refine aa_ 11 31 ?_;refine aa_ 12 32 ?_;refine aw_ 13 k_ rfl (fun K hK=>?_);go_simp;go_at_call 172;refine (isMark_any A n c cv cs hn l V.drew (K3.o.up (Below.drew (b_))) o_).mono ?_;rintro e S ⟨he,hS⟩;obtain ⟨mk,Ai⟩:∃ mk:Bool,(opAt l hn == 21)=mk:=⟨_,rfl⟩;rw [Ai] at he;subst he;have AC:=q_ Ai;clear Ai;have BS:=h_ (Below V V S) ((Below.drew (b_)).trans hS);clear hS;refine hK.out _ _ (Av.o S BS.o) (fun hHeld=>?_);refine aa_ 14 34 ?_;refine aa_ 15 35 ?_;refine aa_ 16 36 ?_;refine wpAnyH_done k_ ?_ _;have H3:=q_ (H2.o.call BS.o);have V3:=q_ (V2.o.up (Up.of_below BS.o));have P3:=q_ (P2.o.below BS.o);have Ad:=q_ (HN.o.up (Up.of_below BS.o));have AJ:=Ad.o.cell (j:=0) rfl;have AK:=Ad.o.cell (j:=1) rfl;have AE:=H3.o.fr.fz (i:=0) rfl;have Aa:=H3.o.fr.cell (i:=0) rfl Ab.o;clear hHeld;cases mk
 case true =>
  have hm:opAt l hn=21:=by simpa using AC.o
  go_wp2_with fail;refine (ej_ S H3.o o_ f 2 ⟨false,0⟩).mono ?_;rintro e W4 ⟨rfl,Y4,C4,h4,p4⟩;have H4:=q_ h4;have V4:=q_ (V3.o.up p4.1);have As:=q_ (Ad.o.up p4.1);have P4:=q_ (P3.o.trans p4 (fun j hj=>by rcases hj with hj | hj <;> omega));have v0:=V4.o.cell (j:=0) rfl;have v1:=V4.o.cell (j:=1) rfl;clear h4 p4 AJ AK AE Aa;go_wp2_with fail;refine (ej_ W4 H4.o o_ 1 2 v).mono ?_;rintro e W5 ⟨rfl,Y5,C5,h5,p5⟩;have P5:=q_ (P4.o.trans p5 (fun j hj=>by rcases hj with hj | hj <;> omega));have n0:=(As.o.up p5.1).cell (j:=0) rfl;have n1:=(As.o.up p5.1).cell (j:=1) rfl;have A5:(C5 b).length=82:=h5.fr.len (i:=0) rfl;obtain ⟨h8,p8⟩:=h5.setCpu (vs:=cpuV hn) (vts_cpuV _) (fun _=>mv_mark (splice_pc A5 rfl) hm);have HT:=q_ (h5.fr.there (i:=0) rfl (o:=39) (n:=(cpuV hn).length) (show (39+33:Nat)<=82 by decide));have HO:=h_ (VTs W5 Y5 0 cpuT (cpuV hn)) (vts_cpuV _);have H8:=q_ h8;have P8:=q_ (P5.o.trans p8 (fun j hj=>by rcases hj with hj | hj;exact .inl o_;exact .inr o_));clear h5 p5 A5 h8 p8 v0 v1;go_wp2_with (with_reducible refine ab_ rfl 62 (.tmp 56) (.tmp 53) rfl (cpuV hn) w_ (by simp [Act.eval,Act.put,cpuV_eq]) HT.o (isz_cpuV _) HO.o.one ?_);refine ret0 zc_ rfl ?_;exact ⟨rfl,P8.o.ms (H8.o.raise o_)⟩
 case false =>
  go_wp2;refine ret0 zc_ rfl ?_;obtain ⟨Y4,C4,h4,u4,q4,j4⟩:=H3.o.set81 (bk:=bk) Ab.o true (fun _=>rfl);exact ⟨rfl,((P3.o.trans ⟨u4,q4,j4⟩ (fun j hj=>by rcases hj with hj | hj <;> omega)).ms (h4.raise o_))⟩
 -- end 4
end Go.Proofs.YtfolidlmgfhkiaaGreat
