/- Lemmas on functions of the program, under the conditions that each states. -/
import Derived.Test.YtfolidlmgfhkiaaGreatY35
import Derived.Test.YtfolidlmgfhkiaaGreatY38
import Derived.Test.YtfolidlmgfhkiaaGreatY39
set_option linter.unusedVariables false
set_option linter.unusedSimpArgs false
set_option maxRecDepth 100000
set_option maxHeartbeats 8000000
namespace Go.Proofs.YtfolidlmgfhkiaaGreat.Dl
open Go.RowKit Go.Proofs.Tryz
def Cz (ts:List Pr) (QA:OA) (qc:Nat):Prop:=ts.length<=qc/\(ts.length=0->QA=none/\qc=0)
theorem counts_any (SA:OA) (sn sc:Nat) (sl:List Int) (xa xb xk thr:Int) (w:World) (hs:Sl w w 1 byteCells SA sn sl) (hsl:∀ (i:Nat) (x:Int),sl[i]?=some x->0<=x/\x<=255) (hnc:sn<=sc) (hsn:sn<=9223372036854775807) (hsc:sc<=9223372036854775807)
  (hxa:-9223372036854775808<=xa/\xa<=9223372036854775807) (hxb:-9223372036854775808<=xb/\xb<=9223372036854775807) (hxk:-9223372036854775808<=xk/\xk<=9223372036854775807) (hth:-9223372036854775808<=thr/\thr<=9223372036854775807) :
  Calls prog 5 #[.slice SA sn sc,i_ xa,i_ xb,i_ xk,i_ thr] w fun e w'=>e=.returned (.bool true)/\Below w w w':=by
 have Bu:=q_ hs;have AI:=q_ hsl;have C4:=q_ hth;have C5:=q_ hxa;have C6:=q_ hxb;have C7:=q_ hxk;clear hs hsl hth hxa hxb hxk;go_enter func5,ntmps5;go_wp2_with fail;refine (sane_any w).mono ?_;rintro e w1 ⟨rfl,Ag⟩;have Aw:=q_ (Bu.o.up Ag);have AX:=q_ Ag;clear Ag Bu;go_wp2_with fail;refine (new_dice SA sn sc sl w1 Aw.o AI.o hnc hsn hsc).mono ?_;rintro e w2 ⟨d,rfl,hD,BI,Aa⟩;have B4:=q_ (AX.o.trans (Aa.mono AX.o.size));have B6:=q_ hD;have BQ:w<=d:=Nat.le_trans AX.o.size BI;have AY:=q_ BQ;clear Aa hD BI Aw AI AX;go_wp2_with fail;refine (made_any d w2 B6.o).mono ?_;rintro e w3 ⟨QA,qn,qc,ts,rfl,B1,BK,Ch,BL,AA,BT,AV,AZ⟩;have Al:Below w w w3:=B4.o.trans (AZ.kp.below B4.o.size (fun q hq e=>by subst e;have:=AY.o;omega));obtain ⟨b6,Ah⟩:=ex_ (w3:Nat);obtain ⟨V,hV,B0,Ca,Bc⟩:=ag_ w3 [.slice QA qn qc] 73;obtain rfl:qn=ts.length:=B1.len.symm;have Cc:d<w2:=B6.o.lt;have Cd:d<w3:=AZ.dice.lt;rw [<-Ah] at Bc;have HV:=q_ (show Dice V d/\Below w w V/\Bx V b6 [.slice QA ts.length qc]/\Sl V V 3 Pr.cells QA ts.length ts/\(∀ ad,QA=some ad->ad.block≠d/\ad.block<b6\/ts.length=0)/\d<b6 from
  ⟨AZ.dice.below B0,Al.trans (B0.mono Al.size),Bc,B1.up B0,fun ad ha=>by
   by_cases h0:ts.length=0
   ·exact .inr h0
   obtain ⟨g,o,e,Cg,_⟩:=B1.at_ o_
   have:=AV ad ha
   rw [ha] at e;injection e with e;subst e
   have h2:g<w3:=Cg
   exact .inl ⟨by show g≠d;have:w2<=g:=this;omega,by show g<b6;omega⟩,o_⟩)
 have HG:=q_ BK;have HC:=q_ AA;have Bt:=q_ BL;have HZ:=q_ BT;clear B1 BK Ch BL AA BT AV AZ Al Bc B0 Ca Cd B4 B6 Cc;go_upto_region 5 with fail;rw [<-hV,<-Ah];clear hV Ah;go_wp2_with fail;refine (Made_m d (fun q=>q=d\/q=b6) V HV.o.1 (fun q hq=>by rcases hq with hq | hq;subst hq;exact HV.o.1.lt;subst hq;exact HV.o.2.2.1.1) (.inl rfl)).mono ?_;rintro e w5 ⟨⟨k,us,vs,A,n,c,nx,rfl,Bm,BR,Ba,AW,B2,By⟩,hR⟩;obtain ⟨l,hl⟩:=tks_of B2.o;have B3:vs.length=cq_.length:=Bm.o.lx;have H1:=h_ (∀ u ∈ vs,u.oneCell'=true) (scene_one Bm.o BR.o Ba By);have IV:=h_ ((prog.info? 43).map (·.size)=some vs.length) (by rw [B3];exact isz_43);have BN:=q_ (Bx.new w5 zl7 43);have TH:=h_ ((w5.alloc (.cells zl7.toArray 43)).there w5 0 vs.length) (BN.o.there (by rw [B3];decide));obtain ⟨b7,Bh⟩:=ex_ (w5:Nat);obtain ⟨U,hU⟩:=ex_ ((w5.alloc (.cells zl7.toArray 43)).setCells w5 0 vs);have Ay:Below w5 w5 U:=by rw [hU];exact (ai_ w5 vs 0 (Kp.of_below (X:=fun _=>False) ((b_).alloc (l_) _)) (.inr (l_))).below (l_) (fun _ _ h=>h)
 have BU:=h_ (Bx U w5 vs) (by rw [hU];exact BN.o.all vs B3);have Bz:b6<w5:=lt_ HV.o.2.2.1.1 hR.kp.size;have AH:=q_ (show Dn w d w5 b6 vs l A n c ts QA qc U from
  ⟨hR.dice.below Ay,AY.o,HV.o.2.2.2.2.2,Bz,BU.o,Ba,B2.o.cap,AW,hl.up Ay,fun hn ad ha=>by
   obtain ⟨g,o,e2,_,hX,_⟩:=B2.o.at_ _ ha
   subst e2
   exact ⟨fun e=>hX (.inl e),fun e=>hX (.inr e)⟩,
    (HV.o.2.2.1.kp hR.kp (fun e=>by have e:b6=d:=e;have:=HV.o.2.2.2.2.2;omega)).below Ay,
    sl_kp HV.o.2.2.2.1 (hR.kp.az_ Ay) (fun hn ad ha e=>by rcases HV.o.2.2.2.2.1 ad ha with h | h;exact h.1 e;omega),
    (fun ad ha=>by
   rcases HV.o.2.2.2.2.1 ad ha with h | h
   ·exact ⟨h.1,o_⟩
   rw [(HZ.o h).1] at ha;cases ha),
   HG.o,Bt.o,HV.o.2.1.trans (((hR.kp.az_ Ay)).below HV.o.2.1.size (fun q hq e=>by have e:q=d:=e;have:=AY.o;omega))⟩)
 have Bo:=h_ (Cz ts QA qc) (⟨HC.o,HZ.o⟩);clear hR hl B2 Bm BR Ba By B3 Ay BU HV HG Bt HZ HC Bz;go_upto_region 6 with (with_reducible refine ab_ rfl 43 (.tmp 13) (.tmp 29) rfl vs w_ v_ TH.o IV.o H1.o ?_);rw [<-hU,<-Bh];rw [<-Bh] at AH;clear hU Bh BN TH IV H1 AY BQ;have x15:=AH.o.x.2.1 15 _ AH.o.x15;go_upto_block 0 with fail;clear x15;go_cut [] (fun wx=>∃ (ts:List Pr) (QA:OA) (qc:Nat),Hid (Dn w d b7 b6 vs l A n c ts QA qc wx)/\Hid (Cz ts QA qc))
 case first =>
  go_wp2_with fail;go_loopw [33] (fun i wr=>∃ (kk:Nat) (ts:List Pr) (QA:OA) (qc:Nat),kk<=n/\i=i_ kk/\Hid (Dn w d b7 b6 vs l A n c ts QA qc wr)/\Hid (Cz ts QA qc)) (fun i _=>n - (intOf i).toNat)
  case atStart=>exact ⟨0,ts,QA,qc,o_,rfl,AH,Bo⟩
  obtain ⟨kk,ts,QA,qc,hk,rfl,Ai,As⟩:=hrel;by_cases hkn:kk<n
  case neg =>
   have Cf:¬(kk:Int)<(n:Int):=by omega
   go_wp2_with fail;go_meet;exact ⟨ts,QA,qc,Ai,As⟩
  case pos =>
  have Cf:(kk:Int)<(n:Int):=by omega
  have x15:=Ai.o.x.2.1 15 _ Ai.o.x15;go_upto_block 1 with fail;go_cut [] (fun wx=>∃ (ts:List Pr) (QA:OA) (qc:Nat),Hid (Dn w d b7 b6 vs l A n c ts QA qc wx)/\Hid (Cz ts QA qc))
  case first =>
   go_upto_block 2 with fail;clear x15;go_wp2_with fail;go_loopw [39] (fun i wr=>∃ (jj:Nat) (ts:List Pr) (QA:OA) (qc:Nat),jj<=n/\i=i_ jj/\Hid (Dn w d b7 b6 vs l A n c ts QA qc wr)/\Hid (Cz ts QA qc)) (fun i _=>n - (intOf i).toNat)
   case atStart=>exact ⟨0,ts,QA,qc,o_,rfl,Ai,As⟩
   obtain ⟨jj,ts,QA,qc,hj,rfl,Ai,As⟩:=hrel;by_cases hjn:jj<n
   case neg =>
    have AU:¬(jj:Int)<(n:Int):=by omega
    go_wp2_with fail;go_meet;exact ⟨ts,QA,qc,Ai,As⟩
   case pos =>
   have AU:(jj:Int)<(n:Int):=by omega
   have Bq:=q_ Ai.o.dice;go_wp2_with fail;refine (bf_ d 3 _ Bq.o d_ d_).mono ?_;rintro e w5 ⟨r3,Ck,rfl,BP,-⟩;have AG:=q_ (Ai.o.pick BP);clear BP Bq Ai;by_cases h0:r3=0
   case neg =>
    have g:((r3:Int) == 0)=false:=by simpa using h0
    clear h0;go_wp2_with fail;go_roundw
    case rel=>exact ⟨jj+1,ts,QA,qc,o_,za_,AG,As⟩
    case measure=>simp [intOf] <;> omega
   case pos =>
   have g:((r3:Int) == 0)=true:=by subst h0;rfl
   clear h0;obtain ⟨g,o,t1,rfl,BM,s1⟩:=AG.o.start hkn;obtain ⟨g',o',t2,Bb,BO,s2⟩:=AG.o.start hjn;injection Bb with Bb;injection Bb with e1 e2;subst e1 e2;have A7:=q_ (AG.o.below (Below.drew (b_)));have x15:=A7.o.x.2.1 15 _ A7.o.x15;have q0:=AG.o.q.2.1 0 _ rfl;have A3:=h_ (∀ w':World,Below w5.drew w5.drew w'->((w'.cell? (f_ b7 15)=some (.slice (some (f_ g o)) n c)/\w'.cell? ⟨g,o+kk*48,none⟩=some (i_ t1.start)/\w'.cell? ⟨g,o+jj*48,none⟩=some (i_ t2.start)))) (fun w' hb=>by
    have h:=A7.o.below hb
    obtain ⟨g2,o2,t3,Ap,Aj,s3⟩:=h.start hkn
    obtain ⟨g4,o4,t4,Aq,Ak,s4⟩:=h.start hjn
    injection Ap with Ap
    injection Ap with e1 e2
    subst e1 e2
    injection Aq with Aq
    injection Aq with e1 e2
    subst e1 e2
    rw [BM] at Aj
    rw [BO] at Ak
    injection Aj with Aj
    injection Ak with Ak
    subst Aj Ak
    exact ⟨h.x.2.1 15 _ h.x15,s3,s4⟩)
   clear s1 s2 x15;go_upto_region 13 with fail;refine am_ (S:=fun w':World=>(w'.cell? (f_ b7 15)=some (.slice (some (f_ g o)) n c)/\w'.cell? ⟨g,o+kk*48,none⟩=some (i_ t1.start)/\w'.cell? ⟨g,o+jj*48,none⟩=some (i_ t2.start))) rfl (A3.o _ (b_)) (fun hHeld=>?_);go_simp;refine aa_ 1 46 ?_;refine aa_ 2 47 ?_;refine aa_ 3 48 ?_;refine aa_ 4 49 ?_;refine aa_ 5 50 ?_;refine aa_ 6 51 ?_;refine aa_ 7 52 ?_;refine aa_ 8 53 ?_;refine aa_ 9 54 ?_;refine aa_ 10 55 ?_;refine aa_ 11 56 ?_;refine aa_ 12 57 ?_;refine aw_ 0 k_ rfl (fun K hK=>?_);go_simp;refine hK.out _ _ (A3.o _ (b_)) (fun hHeld=>?_);refine au_ 13 fun K hK=>?_
   go_simp;go_at_call 27;refine (ed_ QA ts.length qc ts t1.start t2.start w5.drew A7.o.pr (by have:=A7.o.le;omega) A7.o.good As.o.1 As.o.2).mono ?_;rintro e w6 ⟨A6,n6,c6,rfl,Bl,Ah,BH,BV,BJ⟩;have BZ:=q_ Ah;have C0:=h_ (Cz (bv_ ts t1.start t2.start) A6 c6) (by rw [Cz,Bl.len];exact ⟨BH,BV⟩);have Bp:=q_ (A7.o.put (c':=c6) Ah Bl BJ (train_good A7.o.good _ _) (train_le A7.o.le _ _));have q6:=(A7.o.below Ah).q.2.1 0 _ rfl;have f6:=(A7.o.below Ah).q.2.2;clear Ah Bl BH BV BJ q0;refine hK.out _ _ (A3.o _ BZ.o) (fun hHeld=>?_);refine au_ 14 fun K hK=>?_
   go_simp;refine hK.out _ _ ?_ (fun hHeld=>?_)
   ·have h:=Bp.o;obtain ⟨g2,o2,t3,Ap,Aj,s3⟩:=h.start hkn;obtain ⟨g4,o4,t4,Aq,Ak,s4⟩:=h.start hjn;injection Ap with Ap;injection Ap with e1 e2;subst e1 e2;injection Aq with Aq;injection Aq with e1 e2;subst e1 e2;rw [BM] at Aj;rw [BO] at Ak;injection Aj with Aj;injection Ak with Ak;subst Aj Ak;exact ⟨h.x.2.1 15 _ h.x15,s3,s4⟩
   try simp only [Act.put,sA,s0,s1]
   refine wpAnyH_done k_ ?_ _;go_wp2_with fail;go_roundw
   case rel=>exact ⟨jj+1,_,_,_,o_,za_,Bp,C0⟩
   case measure=>simp [intOf] <;> omega
  case rest =>
  rename World=>w9
  obtain ⟨ts,QA,qc,C2,C1⟩:=hcut;go_wp2_with fail;go_roundw
  case rel=>exact ⟨kk+1,ts,QA,qc,o_,za_,C2,C1⟩
  case measure=>simp [intOf] <;> omega
 case rest =>
 rename World=>w10
 obtain ⟨ts,QA,qc,AD,AC⟩:=hcut;clear AH Bo;go_wp2_with fail;refine (mod_any xa 6 w10 d_ d_ C5.o).mono ?_;rintro e Cj ⟨ra,Cm,-,rfl,AO⟩;have AE:=q_ (AD.o.below AO);clear AO AD;go_wp2_with fail;refine (mod_any xb 6 Cj d_ d_ C6.o).mono ?_;rintro e BW ⟨rb,Cn,-,rfl,AP⟩;have AF:=q_ (AE.o.below AP);clear AP AE;obtain ⟨V1,BA,AL,Be,Ar⟩:=ag_ BW [i_ xa,i_ xb,i_ ra,i_ rb] 77;obtain ⟨c1,Bj⟩:=ex_ (BW:Nat);rw [<-Bj] at Ar;have An:=q_ (AF.o.below AL);have Br:=h_ (∀ jj,jj<2->∃ x y:Int,∀ w',Below V1 V1 w'->w'.cell? ⟨c1,jj*2,none⟩=some (i_ x)/\w'.cell? ⟨c1,jj*2+1,none⟩=some (i_ y)) (fun jj hj=>by
  have h:jj=0\/jj=1:=by omega
  rcases h with rfl | rfl
  ·exact ⟨_,_,fun w' hb=>⟨(Ar.below hb).2.1 0 _ rfl,(Ar.below hb).2.1 1 _ rfl⟩⟩
  exact ⟨_,_,fun w' hb=>⟨(Ar.below hb).2.1 2 _ rfl,(Ar.below hb).2.1 3 _ rfl⟩⟩)
 have Bk:c1<V1:=Ar.1;clear AL Be Ar AF;go_upto_block 4 with fail;rw [<-BA,<-Bj];clear BA Bj;go_cut [] (fun wx=>Hid (Below V1 V1 wx))
 case first =>
  go_wp2_with fail;go_loopw [71] (fun i wr=>∃ jj:Nat,jj<=2/\i=i_ jj/\Hid (Below V1 V1 wr)) (fun i _=>2 - (intOf i).toNat)
  case atStart=>exact ⟨0,o_,rfl,q_ (b_)⟩
  obtain ⟨jj,hj,rfl,A9⟩:=hrel;by_cases hj2:jj<2
  case neg =>
   have AU:¬(jj:Int)<2:=by omega
   go_wp2_with fail;go_meet;exact A9
  case pos =>
  have AU:(jj:Int)<2:=by omega
  obtain ⟨x,y,BS⟩:=Br.o jj hj2;obtain ⟨c0,C9⟩:=BS wr A9.o;obtain ⟨Y,hY,BD,Cb,Bd⟩:=ag_ wr [i_ x,i_ y] 77;obtain ⟨b9,Bi⟩:=ex_ (wr:Nat);rw [<-Bi] at Bd;have C8:=q_ Bd;have Bn:=q_ (A9.o.trans (BD.mono A9.o.size));clear BD Cb Bd A9 BS;go_upto_region 19 with fail;rw [<-hY,<-Bi];clear hY Bi c0 C9;have AJ:=h_ (Below Y Y Y.drew) (Below.drew (b_));have Bv:=h_ (∀ wz,Below Y Y wz->Below V1 V1 wz) (fun wz hb=>Bn.o.trans (hb.mono Bn.o.size));have A0:=h_ (∀ wz,Below Y Y wz->Dn w d b7 b6 vs l A n c ts QA qc wz) (fun wz hb=>An.o.below (Bv.o wz hb));have A3:=h_ (∀ w',Below Y Y w'->w'.cell? (a_ b9)=some (i_ x)/\w'.cell? (f_ b9 1)=some (i_ y)/\w'.cell? (a_ b6)=some (.slice QA ts.length qc)) (fun w' hb=>by
   have h1:=C8.o.below hb
   exact ⟨h1.2.1 0 _ rfl,h1.2.1 1 _ rfl,(A0.o w' hb).q.2.1 0 _ rfl⟩)
  refine am_ (S:=fun w':World=>w'.cell? (a_ b9)=some (i_ x)/\w'.cell? (f_ b9 1)=some (i_ y)/\w'.cell? (a_ b6)=some (.slice QA ts.length qc)) rfl (A3.o _ AJ.o) (fun hHeld=>?_);go_simp;refine aa_ 0 75 ?_;refine aa_ 1 76 ?_;refine aa_ 2 77 ?_;refine aa_ 3 78 ?_;refine aa_ 4 79 ?_;refine aa_ 6 81 ?_;refine aa_ 7 82 ?_;refine aa_ 8 83 ?_;refine aa_ 9 84 ?_;refine aa_ 10 85 ?_;refine aw_ 5 k_ rfl (fun K hK=>?_);go_simp;go_at_call 29;refine (train_any QA ts.length qc ts x y Y.drew (A0.o _ AJ.o).pr (by have:=(A0.o _ AJ.o).le;omega) (A0.o _ AJ.o).good).mono ?_;rintro e z1 ⟨A1,n1,k1,rfl,Au,Ag,-⟩;have A4:=q_ (AJ.o.trans Ag);obtain rfl:n1=(bv_ ts x y).length:=Au.len.symm;have Aw:=q_ Au;clear Ag Au;refine hK.out _ _ (A3.o _ A4.o) (fun hHeld=>?_);refine au_ 11 fun K hK=>?_
  go_simp;go_at_call 27;refine (ed_ QA ts.length qc ts x y z1 (A0.o _ A4.o).pr w1_ (A0.o _ A4.o).good AC.o.1 AC.o.2).mono ?_;rintro e z2 ⟨A2,n2,k2,rfl,Av,Aa,-,-,-⟩;have A5:=q_ (A4.o.trans (Aa.mono A4.o.size));obtain rfl:n2=(bv_ ts x y).length:=Av.len.symm;have B8:=q_ Av;have B9:=q_ (Aw.o.up Aa);clear Aa Av;refine hK.out _ _ (A3.o _ A5.o) (fun hHeld=>?_);refine au_ 12 fun K hK=>?_
  go_simp;go_at_call 28;refine (same_any A1 (bv_ ts x y).length k1 A2 k2 (bv_ ts x y) z2 B9.o B8.o (by have:=train_le (A0.o _ A5.o).le x y;omega)).mono ?_;rintro e z3 ⟨rfl,AR⟩;have Af:=q_ (A5.o.trans (AR.mono A5.o.size));clear AR;refine hK.out _ _ (A3.o _ Af.o) (fun hHeld=>?_);refine aa_ 13 88 ?_;refine aa_ 14 89 ?_;refine aa_ 15 90 ?_;refine aa_ 16 91 ?_;refine aa_ 17 92 ?_;refine aa_ 18 93 ?_;refine aa_ 19 94 ?_;refine aa_ 21 96 ?_;refine aa_ 22 97 ?_;refine aa_ 23 98 ?_;refine aa_ 24 99 ?_;refine aa_ 25 100 ?_;refine aw_ 20 k_ rfl (fun K hK=>?_);go_simp;go_at_call 30;refine (dz_ QA ts.length qc ts x y z3 (A0.o _ Af.o).pr (A0.o _ Af.o).good.1 (by have:=(A0.o _ Af.o).le;omega)).mono ?_;rintro e z4 ⟨rfl,BE⟩;have Ax:=q_ (Af.o.trans (BE.mono Af.o.size));clear BE;refine hK.out _ _ (A3.o _ Ax.o) (fun hHeld=>?_);refine au_ 26 fun K hK=>?_
  go_simp;go_at_call 31;refine (eh_ QA ts.length qc ts x y z4 (A0.o _ Ax.o).pr (A0.o _ Ax.o).good.1 (by have:=(A0.o _ Ax.o).le;omega)).mono ?_;rintro e z5 ⟨rfl,BF⟩;have Bw:=q_ (Ax.o.trans (BF.mono Ax.o.size));clear BF;refine hK.out _ _ (A3.o _ Bw.o) (fun hHeld=>?_);refine aa_ 27 102 ?_;try simp only [bne_self_eq_false]
  refine aa_ 28 103 ?_;refine wpAnyH_done k_ ?_ _;go_wp2_with fail;go_roundw
  case rel=>exact ⟨jj+1,o_,za_,q_ (Bv.o _ Bw.o)⟩
  case measure=>simp [intOf] <;> omega
 case rest =>
 rename World=>w20
 have A8:=q_ (An.o.below hcut.o);clear hcut An Br Bk;have x15:=A8.o.x.2.1 15 _ A8.o.x15;have AW:n<=16:=A8.o.n16;have Ci:IntKind.i64.wrap ((n:Int) - 1)=(n:Int) - 1:=by rw [IntKind.wrap_i64];omega
 have Ad:=h_ (Below w20 w20 w20.drew) (Below.drew (b_));have A0:=h_ (∀ wz,Below w20 w20 wz->Dn w d b7 b6 vs l A n c ts QA qc wz) (fun wz hb=>A8.o.below hb);have A3:=h_ (∀ w',Below w20 w20 w'->w'.cell? (f_ b7 15)=some (.slice A n c)) (fun w' hb=>(A0.o w' hb).x.2.1 15 _ (A0.o w' hb).x15);clear x15;go_upto_region 22 with fail;refine am_ (S:=fun w':World=>w'.cell? (f_ b7 15)=some (.slice A n c)) rfl (A3.o _ Ad.o) (fun hHeld=>?_);go_simp;refine aa_ 0 105 ?_;refine aa_ 1 106 ?_;refine aa_ 3 108 ?_;refine aa_ 4 109 ?_;refine aa_ 5 110 ?_;refine aa_ 6 111 ?_;refine aa_ 9 114 ?_;refine aw_ 2 k_ rfl (fun K hK=>?_);go_simp;go_at_call 12;refine (mod_any xk 6 w20.drew d_ d_ C7.o).mono ?_;rintro e BX ⟨rk,Co,-,rfl,AQ⟩;have Ab:=q_ (Ad.o.trans AQ);clear AQ;refine hK.out _ _ (A3.o _ Ab.o) (fun hHeld=>?_);try simp only [Act.put,sA,s0,s1]
 try simp only [Ci]
 refine aw_ 7 k_ rfl (fun K hK=>?_);go_simp;obtain ⟨V2,BB,AM,Bf,AK⟩:=ag_ BX [i_ xk,i_ rk,i_ ((n:Int) - 1)] 3;have Am:=q_ (Ab.o.trans (AM.mono Ab.o.size));rw [<-BB];refine hK.out _ _ (A3.o _ Am.o) (fun hHeld=>?_);refine aa_ 8 113 ?_;refine wpAnyH_done k_ ?_ _;obtain ⟨c2,BG⟩:=ex_ (BX:Nat);rw [<-BG] at AK ⊢;have Bs:=h_ (∀ jj,jj<3->∃ x:Int,∀ w',Below V2 V2 w'->w'.cell? (f_ c2 jj)=some (i_ x)) (fun jj hj=>by
  have h:jj=0\/jj=1\/jj=2:=by omega
  rcases h with rfl | rfl | rfl
  ·exact ⟨_,fun w' hb=>(AK.below hb).2.1 0 _ rfl⟩
  ·exact ⟨_,fun w' hb=>(AK.below hb).2.1 1 _ rfl⟩
  exact ⟨_,fun w' hb=>(AK.below hb).2.1 2 _ rfl⟩)
 have Ao:=q_ (A0.o _ Am.o);clear BB AM Bf AK BG A3 Ab Am A8 A0 Ad hHeld;go_upto_block 6 with fail;go_cut [] (fun wx=>Hid (Below V2 V2 wx))
 case first =>
  go_wp2_with fail;go_loopw [114] (fun i wr=>∃ jj:Nat,jj<=3/\i=i_ jj/\Hid (Below V2 V2 wr)) (fun i _=>3 - (intOf i).toNat)
  case atStart=>exact ⟨0,o_,rfl,q_ (b_)⟩
  obtain ⟨jj,hj,rfl,A9⟩:=hrel;by_cases hj3:jj<3
  case neg =>
   have AU:¬(jj:Int)<3:=by omega
   go_wp2_with fail;go_meet;exact A9
  case pos =>
  have AU:(jj:Int)<3:=by omega
  obtain ⟨x,hx⟩:=Bs.o jj hj3;have c0:=hx wr A9.o;go_upto_block 7 with fail;go_cut [] (fun wx=>Hid (Below V2 V2 wx))
  case first =>
   go_wp2_with fail;refine (mod_any thr 4 wr d_ d_ C4.o).mono ?_;rintro e BY ⟨rt,Cp,-,rfl,AS⟩;have AB:=q_ (A9.o.trans (AS.mono A9.o.size));obtain ⟨V3,BC,AN,Bg,Al⟩:=ag_ BY [i_ thr,i_ rt] 3;obtain ⟨c3,AA⟩:=ex_ (BY:Nat);rw [<-AA] at Al;have Ac:=q_ (AB.o.trans (AN.mono AB.o.size));have C3:=h_ (∀ jj,jj<2->∃ x:Int,∀ w',Below V3 V3 w'->w'.cell? (f_ c3 jj)=some (i_ x)) (fun jj hj=>by
    have h:jj=0\/jj=1:=by omega
    rcases h with rfl | rfl
    ·exact ⟨_,fun w' hb=>(Al.below hb).2.1 0 _ rfl⟩
    exact ⟨_,fun w' hb=>(Al.below hb).2.1 1 _ rfl⟩)
   clear AS AN Bg Al c0 hx A9;go_upto_block 8 with fail;rw [<-BC,<-AA];clear BC AA;go_wp2_with fail;go_loopw [123] (fun i wr=>∃ ii:Nat,ii<=2/\i=i_ ii/\Hid (Below V3 V3 wr)) (fun i _=>2 - (intOf i).toNat)
   case atStart=>exact ⟨0,o_,rfl,q_ (b_)⟩
   rename World=>wq
   obtain ⟨ii,hi,rfl,Az⟩:=hrel;by_cases hi2:ii<2
   case neg =>
    have Ce:¬(ii:Int)<2:=by omega
    go_wp2_with fail;go_meet;exact q_ (Ac.o.trans (Az.o.mono Ac.o.size))
   case pos =>
   have Ce:(ii:Int)<2:=by omega
   obtain ⟨u,hu⟩:=C3.o ii hi2;have c0:=hu wq Az.o;have Ae:=h_ (Below wq wq wq.drew) (Below.drew (b_));have A0:=h_ (∀ wz,Below wq wq wz->Dn w d b7 b6 vs l A n c ts QA qc wz) (fun wz hb=>Ao.o.below (Ac.o.trans ((Az.o.trans (hb.mono Az.o.size)).mono Ac.o.size)));have A3:=h_ (∀ w',Below wq wq w'->w'.cell? (f_ b7 15)=some (.slice A n c)/\w'.cell? (a_ b6)=some (.slice QA ts.length qc)) (fun w' hb=>⟨(A0.o w' hb).x.2.1 15 _ (A0.o w' hb).x15,(A0.o w' hb).q.2.1 0 _ rfl⟩);clear hu;go_upto_region 28 with fail;clear c0;refine am_ (S:=fun w':World=>w'.cell? (f_ b7 15)=some (.slice A n c)/\w'.cell? (a_ b6)=some (.slice QA ts.length qc)) rfl (A3.o _ Ae.o) (fun hHeld=>?_);go_simp;refine aa_ 0 127 ?_;refine aa_ 1 128 ?_;refine aa_ 2 129 ?_;refine aa_ 3 130 ?_;refine aa_ 4 131 ?_;refine aa_ 6 133 ?_;refine aa_ 7 134 ?_;refine aa_ 8 135 ?_;refine aa_ 9 136 ?_;refine aa_ 10 137 ?_;refine aw_ 5 k_ rfl (fun K hK=>?_);go_simp;go_at_call 32;refine (waitsg_any QA ts.length qc ts A n c l x u wq.drew (A0.o _ Ae.o).pr (A0.o _ Ae.o).good.1 (by have:=(A0.o _ Ae.o).le;omega) (A0.o _ Ae.o).tk (by have:=(A0.o _ Ae.o).n16;omega) (A0.o _ Ae.o).cap).mono ?_;rintro e z1 ⟨rfl,AT⟩;have A4:=q_ (Ae.o.trans (AT.mono Ae.o.size));clear AT;refine hK.out _ _ (A3.o _ A4.o) (fun hHeld=>?_);refine au_ 11 fun K hK=>?_
   go_simp;go_at_call 33;refine (refwaits_any QA ts.length qc ts A n c l x u z1 (A0.o _ A4.o).pr (A0.o _ A4.o).good.1 w1_ (A0.o _ A4.o).tk (by have:=(A0.o _ A4.o).n16;omega) (A0.o _ A4.o).cap).mono ?_;rintro e z2 ⟨rfl,AT⟩;have A5:=q_ (A4.o.trans (AT.mono A4.o.size));clear AT;refine hK.out _ _ (A3.o _ A5.o) (fun hHeld=>?_);refine aa_ 12 139 ?_;try simp only [bne_self_eq_false]
   refine wpAnyH_done k_ ?_ _;go_wp2_with fail;go_roundw
   case rel=>exact ⟨ii+1,o_,za_,q_ (Az.o.trans (A5.o.mono Az.o.size))⟩
   case measure=>simp [intOf] <;> omega
  case rest =>
  rename World=>w39
  have B5:=q_ hcut.o;clear hcut;go_wp2_with fail;go_roundw
  case rel=>exact ⟨jj+1,o_,za_,B5⟩
  case measure=>simp [intOf] <;> omega
 case rest =>
 rename World=>w40
 have B7:=q_ (Ao.o.below hcut.o);clear hcut Ao Bs;have Ad:=h_ (Below w40 w40 w40.drew) (Below.drew (b_));have A0:=h_ (∀ wz,Below w40 w40 wz->Dn w d b7 b6 vs l A n c ts QA qc wz) (fun wz hb=>B7.o.below hb);have A3:=h_ (∀ w',Below w40 w40 w'->w'.cell? (a_ b6)=some (.slice QA ts.length qc)) (fun w' hb=>(A0.o w' hb).q.2.1 0 _ rfl);go_upto_region 32 with fail;refine am_ (S:=fun w':World=>w'.cell? (a_ b6)=some (.slice QA ts.length qc)) rfl (A3.o _ Ad.o) (fun hHeld=>?_);go_simp;refine aa_ 0 142 ?_;refine aa_ 2 144 ?_;refine aw_ 1 k_ rfl (fun K hK=>?_);go_simp;go_at_call 34;refine (decay_any QA ts.length qc ts w40.drew (A0.o _ Ad.o).pr (by have:=(A0.o _ Ad.o).le;omega) (A0.o _ Ad.o).good.2).mono ?_;rintro e z1 ⟨A1,n1,k1,rfl,Au,Ag,-⟩;have A4:=q_ (Ad.o.trans Ag);obtain rfl:n1=(bo_ ts).length:=Au.len.symm;have Aw:=q_ Au;clear Ag Au;refine hK.out _ _ (A3.o _ A4.o) (fun hHeld=>?_);refine au_ 3 fun K hK=>?_
 go_simp;go_at_call 35;refine (refdecay_any QA ts.length qc ts z1 (A0.o _ A4.o).pr w1_ (A0.o _ A4.o).good.2).mono ?_;rintro e z2 ⟨A2,n2,k2,rfl,Av,Aa,-,-,-⟩;have A5:=q_ (A4.o.trans (Aa.mono A4.o.size));obtain rfl:n2=(bo_ ts).length:=Av.len.symm;have B8:=q_ Av;have B9:=q_ (Aw.o.up Aa);clear Aa Av;refine hK.out _ _ (A3.o _ A5.o) (fun hHeld=>?_);refine au_ 4 fun K hK=>?_
 go_simp;go_at_call 28;refine (same_any A1 (bo_ ts).length k1 A2 k2 (bo_ ts) z2 B9.o B8.o (by have:=decay_len ts;have:=(A0.o _ A5.o).le;omega)).mono ?_;rintro e z3 ⟨rfl,AR⟩;have Af:=q_ (A5.o.trans (AR.mono A5.o.size));clear AR;refine hK.out _ _ (A3.o _ Af.o) (fun hHeld=>?_);refine aa_ 5 10 ?_;refine wpAnyH_done k_ ?_ _;go_wp2_with fail;go_ret;exact ⟨rfl,(A0.o _ Af.o).bel⟩
end Go.Proofs.YtfolidlmgfhkiaaGreat.Dl
