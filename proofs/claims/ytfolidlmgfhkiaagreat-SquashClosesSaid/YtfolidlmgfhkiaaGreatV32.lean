/- Lemmas on functions of the program, under the conditions that each states. -/
import Derived.Test.YtfolidlmgfhkiaaGreatV18
import Derived.Test.YtfolidlmgfhkiaaGreatV24
set_option linter.unusedVariables false
set_option linter.unusedSimpArgs false
set_option maxRecDepth 100000
set_option maxHeartbeats 16000000
namespace Go.Proofs.YtfolidlmgfhkiaaGreat
open Go.RowKit Go.Proofs.Tryz
def nmMain:ByteArray:=⟨#[109,97,105,110]⟩
def nmF:ByteArray:=⟨#[102]⟩
def nmG:ByteArray:=⟨#[103]⟩
theorem isz1P:(prog.info? 136).map (·.size)=some 1:=by kernel_rfl
theorem isz3f:(prog.info? 194).map (·.size)=some 3:=by kernel_rfl
theorem program_m (d:Nat) (X:NP) (w:World) (hD:Dice w d) (hX:∀ k,X k->k<w) (hXd:X d) :
  Calls prog 69 #[.pointer (some (a_ d))] w fun e w'=>(∃ A,e=.returned (.agg #[.slice A 3 3])/\Hid (PgT w' X 3 A 3 3))/\Rd d w w':=by
 obtain ⟨W,hW,Ci,CQ,B1,B2⟩:=cb_ w [.slice none 0 0] 136 [.pointer (some (a_ d)),i_ 9,i_ 0,i_ 0] 205;obtain ⟨b,hb⟩:=ex_ (w.heap.size+1);rw [<-hb] at B2;have Dy:=hD.lt;have hM:Mk d b 0 W:=⟨hD.below Ci,o_,o_,B2.2.1 0 _ rfl,⟨_,B2.2.1 1 _ rfl⟩,B2.2.1 2 _ rfl,⟨_,B2.2.1 3 _ rfl⟩,B2.2.2⟩;obtain ⟨X0,Bn⟩:∃ X0:NP,X0=fun k=>X k\/k=b\/k=w.heap.size:=⟨_,rfl⟩
 have A2:∀ k,((x1 X0):XE) k->k<W:=fun k hk=>by
  have hk:X0 k:=hk;rw [Bn] at hk;rcases hk with hk | hk | hk
  ·have:=hX k hk;omega
  ·omega
  omega
 have A5:=h_ (∀ k,Zm d b k->((x1 X0):XE) k) (fun k hk=>by
  show X0 k
  rw [Bn]
  rcases hk with hk | hk
  ·have hk:k=d:=hk;exact .inl (hk ▸ hXd)
  exact .inr (.inl hk))
 have C6:=h_ ((∀ k,X k->X0 k)/\X0 w/\∀ k,X k->k<w) (⟨fun k hk=>by rw [Bn];exact .inl hk,by rw [Bn];exact .inr (.inr rfl),hX⟩);have Dh:=q_ hM;have DH:=q_ (Nat.le_refl W);have HW:=q_ Ci;have Dj:=q_ B1;have DI:=q_ hD;have DJ:=q_ CQ;have CP:W=(w.alloc (.cells #[.slice none 0 0] 136)).alloc (.cells #[.pointer (some (a_ d)),i_ 9,i_ 0,i_ 0] 205):=hW;have Dw:w<b:=by omega
 clear hD hM Bn hX hXd B1 B2 Ci hW CQ;go_enter func69,ntmps69;go_upto_region 2 with fail;rw [<-hb,<-CP];clear CP hb;go_upto_region 3 with (go_at_call 113;refine (ls0 d b 0 X0 6 W d_ o_ Dh.o A5.o A2).mono ?_;rintro e w1 ⟨⟨A1,n1,c1,rfl,DT,_,CM⟩,AO⟩);have BU:=q_ AO.ok;have CH:=q_ AO.kp;have Ah:=h_ (∀ k,Zm d b k->k<W) (fun k hk=>A2 k (A5.o k hk));clear AO;go_upto_if 16 with (go_at_call 26;refine (bn_ d 3 w1 BU.o.dice d_ d_).mono ?_;rintro e w2 ⟨r,hr,rfl,ht,_⟩);have BY:=q_ (BU.o.thrown ht);have By:=q_ (CH.o.trans (ht.kp b));have BB:=q_ (CM.o.kpz (ht.kp b) (fun k hk=>A5.o k hk) Ah.o);have A9:(W:Nat)<=w2:=By.o.size;clear ht CM;generalize decide (0<r)=bd;go_cut [4] (fun v wx=>∃ A n c,v=.slice A n c/\n<=8/\Hid (OwP wx W 212 pS (ah_ 3) X0 20 A n c)/\Hid (Mk d b 0 wx)/\Hid (Kp (Zm d b) W wx))
 case first =>
  cases bd
  case false =>
   go_upto_block 99 with fail;go_meet;exact ⟨A1,n1,c1,rfl,o_,BB,BY,By⟩
  go_upto_region 4 with fail;go_wp2_with fail;refine (ck_ 0 d_ d b 0 (Wi X0 (Value.slice A1 n1 c1).ownBlock) w2 BY.o (fun q hq=>.inl (A5.o q hq)) (fun q hq=>by rcases hq with hq | hq;(have:=A2 q hq;omega);exact (BB.o.blk hq).2)).mono ?_;rintro e v1 ⟨⟨kd,n',s,op,E,em,ec,rfl,hv⟩,Aw⟩;have Df:=q_ Aw.ok;have Bz:=q_ (By.o.trans Aw.kp);have Bd:=q_ (BB.o.kpz Aw.kp (fun k hk=>A5.o k hk) Ah.o);have DV:(w2:Nat)<=v1:=Aw.kp.size;have HV:=q_ hv.o;have AT:=q_ (Bx.new v1 (exL kd n' s op E em ec) 209);obtain ⟨U1,Az⟩:=ex_ (v1.alloc (.cells (exL kd n' s op E em ec).toArray 209));rw [<-Az] at AT;have Ai:Below v1 v1 U1:=by rw [Az];exact av_ _ _ _
  have Bi:(U1:Nat)=v1+1:=by rw [Az];simp
  have Bu:=q_ (Bx.new U1 (stL 7 ⟨#[]⟩ ⟨#[]⟩ 0 0 (some (a_ v1)) 1 1 none 0 0 none 0 0) 212);obtain ⟨U2,AA⟩:=ex_ (U1.alloc (.cells (stL 7 ⟨#[]⟩ ⟨#[]⟩ 0 0 (some (a_ v1)) 1 1 none 0 0 none 0 0).toArray 212));rw [<-AA] at Bu;have Ag:Below U1 U1 U2:=by rw [AA];exact av_ _ _ _
  have A0:Below v1 v1 U2:=Ai.trans (Ag.mono Ai.size);have Bq:∀ k,Wi X0 (Value.slice A1 n1 c1).ownBlock k->k<v1:=fun k hk=>by
   rcases hk with hk | hk
   ·have:=A2 k hk;omega
   have:=(Bd.o.blk hk).2;omega
  have Db:=h_ (SlP U2 (Wi X0 (Value.slice A1 n1 c1).ownBlock) 20 pE (ay_ dE) (some (a_ v1)) 1 1) (SlP.one (AT.o.below Ag) (fun h=>by have:=Bq _ h;omega) d_ (exprT_le d_ (HV.o.1.up (.of_below A0) (l_)) HV.o.2) HV.o.2);have Dm:=h_ (SlP U2 (Wi X0 (Value.slice A1 n1 c1).ownBlock) 20 pS (ah_ 3) (some (a_ U1)) 1 1) (SlP.one Bu.o (fun h=>by have:=Bq _ h;omega) d_ (stmtT_le (Nat.zero_le _) (ec_ Db.o) (pS_st x_ x_ x_ d_ d_)) (pS_st x_ x_ x_ d_ d_));have C2:=q_ (Bd.o.below A0);have AI:=q_ (Df.o.below A0);have BA:=q_ (Bz.o.bb_ A0);have DW:(v1:Nat)<=U2:=A0.size;have Do:=h_ (∀ k,X0 k->k<U2) (fun k hk=>by have:=A2 k hk;omega);have C4:=h_ (U1=v1.alloc (.cells #[i_ kd,i_ n',.string s,i_ op,.slice E em ec] 209)) Az;have C5:=h_ (U2=U1.alloc (.cells #[i_ 7,.string ⟨#[]⟩,.string ⟨#[]⟩,i_ 0,i_ 0,.slice (some (a_ v1)) 1 1,.slice none 0 0,.slice none 0 0] 212)) AA;have C3:=q_ Bi;clear hv Aw Az AA Ai Ag A0 Bi;go_upto_block 99 with (at_builtin;rw [<-C4.o,<-C5.o];refine do_ rfl _ _ rfl ei_stmt v_ C2.o (by simp [Act.eval,Act.put,C3.o]) Dm.o Do.o m_ o_ o_ ?_;intro A6 c6 w6 o6 g6 l6);go_meet;exact ⟨A6,n1+1,c6,rfl,o_,q_ o6,q_ (AI.o.grown g6 (fun k hk=>by have:=(C2.o.blk hk).1;have:=Ah.o b (.inr rfl);omega)),q_ (BA.o.grown g6 (fun k hk=>.inr (C2.o.blk hk).1))⟩
 case rest =>
 rename World=>w3
 obtain ⟨A3,n3,c3,rfl,DU,Bd,BZ,Bz⟩:=hcut;clear BU CH BY By BB A9;have BL:=h_ ((W:Nat)<=w3) Bz.o.size;have Ab:(W:Nat)<=w3:=BL.o;have HC:=q_ (InvP.ic (d:=d) (b:=b) (X:=(x1 X0)) (w0:=w3) (J:=fun w2=>SlP w2 X0 20 pS (ah_ 3) A3 n3 c3) A5.o (fun w w' hk h=>SlP.kept h (hk.mono (fun k _ hk=>A5.o k hk)) (fun _ _ h=>h) (l_)) (fun _=>trivial));have HI:=h_ (InvP d b X0 w3 (fun w2=>SlP w2 X0 20 pS (ah_ 3) A3 n3 c3) w3) (⟨BZ.o,Kp.refl _ _,fun k hk=>by have:=A2 k hk;omega,Bd.o.slP A2 o_⟩);go_upto_region 5 with fail;go_cut [5] (fun v wx=>∃ g z,v=.pointer (some (a_ g))/\Hid (FnV X0 g z nmMain wx)/\W<=g/\Hid (Mk d b 0 wx)/\Hid (Kp (Zm d b) W wx))
 case first =>
  rename_i J1 K1 hJ1 hK1
  refine region_kzl (X:=(x1 X0)) (Inv:=InvP d b X0 w3 (fun w2=>SlP w2 X0 20 pS (ah_ 3) A3 n3 c3)) (ks:=fun i=>([(kEx (x1 X0) (0)),(kSt (x1 X0) (0)),(kOl (x1 X0) W A2 3 1),(kV (x1 X0) (.slice A3 n3 c3)),(kOt (x1 X0) W A2 3 (1+n3)),(bs_ (x1 X0) (3)),(kOt (x1 X0) W A2 3 17),(kFn (x1 X0) W A2 nmMain 3 17),(kVarF (x1 X0) w3),(kAny (x1 X0))]:List (SK (x1 X0))).getD i (kAny (x1 X0))) 9 k_ rfl rfl HI.o ?_ ?_
  ·intro i o hne ho a w hI hout hin
   match i,ho,hne with
   | 0,ho,_=>cases ho;exact rk_be1 rfl d_ ⟨_,rfl⟩ hI
   | 1,ho,_=>cases ho;exact dg_ HC.o rfl ⟨_,rfl,d_⟩ (bg_ (d':=dE) zn_ (show (kEx (x1 X0) (0)).p w _ from H0_)) hI
   | 2,ho,_=>cases ho;exact rk_ol1 (hB:=A2) (Nat.le_trans Ab hI.kp.size) HC.o rfl (di_ (d':=3) d_ (show (kSt (x1 X0) 0).p w _ from H1_)) hI
   | 3,ho,_=>cases ho;exact bl_ (.inl rfl) (show (kV (x1 X0) (.slice A3 n3 c3)).p w _ from (hout 4 d_)) hI
   | 4,ho,_=>cases ho;exact rk_appf (hB:=A2) (k:=1) (m:=n3) (Nat.le_trans Ab hI.kp.size) HC.o d_ o_ rfl H2_ H3_ hI.j hI
   | 5,ho,_=>cases ho;exact rk_bst3 HC.o rfl d_ d_ d_ hI
   | 6,ho,_=>cases ho;exact rk_first (hB:=A2) (q:=9) (Nat.le_trans Ab hI.kp.size) HC.o d_ rfl (kOt_le o_ (show (kOt (x1 X0) W A2 3 (1+n3)).p w _ from H4_)) H5_ hI
   | 7,ho,_=>cases ho;exact rk_fn2 (hB:=A2) (S:=nmMain) rfl H6_ hI
   | 8,ho,_=>cases ho;exact rk_varf HC.o hI.kp.size rfl hI
   | 9,_,hne=>exact absurd rfl hne
   | q+10,ho,_=>exact n_ ho
  intro a w2 hI hsz AE hout Am K hK;obtain ⟨g,hg,AF,CX,Ak⟩:(kVarF (x1 X0) w3).p w2 (a.tmps.getD 5 undef):=Am 8 _ _ d_ rfl rfl;obtain ⟨P,np,cp,B,m,c,hv,hP,hm,AG,hO⟩:(kFn (x1 X0) W A2 nmMain 3 17).p w2 (a.tmps.getD 31 undef):=Am 7 _ _ d_ rfl rfl;refine wp_store_mid 194 (.tmp 5) (.tmp 31) rfl g 0 _ hg hv (Ak.there (Nat.le_refl 3)) isz3f (by simp [Value.oneCell']) (hK _ _ ?_);have Cn:b<W:=A2 b (A5.o b (.inr rfl));have AR:W<=g:=Nat.le_trans Ab AF;have A4:=fn_set (s1:=nmMain) (A1:=P) (n1:=np) (c1:=cp) (B1:=B) (m1:=m) (d1:=c) (zfn_bx Ak) d_;have A0:=Ak.all [.string nmMain,.slice P np cp,.slice B m c] rfl;have A8:=hP.setf A4;have A9:=(hO.slP A2 o_).setf A4;have Av:=hI.ok.setsO (rb:=g) o_ 0 [.string nmMain,.slice P np cp,.slice B m c];have Au:=ag_ (X:=Zm d b) g [.string nmMain,.slice P np cp,.slice B m c] 0 (Bz.o.trans hI.kp) (.inr AR);have Ax:=hO.setf A4 (fun q hq=>by
   have hne:(Value.slice B m c).ownBlock≠some g:=by
    rcases Nat.eq_zero_or_pos m with h | h
    ·rw [AG h];exact fun h=>by cases h
    exact own_nofn hO h (zfn_bx Ak)
   rw [hq] at hne
   exact (ag_ (X:=fun k=>k=g) g [.string nmMain,.slice P np cp,.slice B m c] 0 (Kp.refl _ w2) (.inl rfl)).block q (hO.blk hq).2 (fun e=>hne xq_))
  obtain ⟨W2,Aa⟩:=ex_ (w2.setCells g 0 [.string nmMain,.slice P np cp,.slice B m c]);rw [<-Aa] at A0 A8 A9 Av Au Ax;show (Exit.then _ _) Exit.normal a (w2.setCells g 0 [.string nmMain,.slice P np cp,.slice B m c])
  rw [<-Aa];have AZ:=q_ (FnV.mk' A0 d_ A8 A9);have Ad:=q_ Av;have Ac:=q_ Au;have An:=q_ A0;have Aq:=q_ A8;have Ap:=q_ Ax;clear Aa A4 A0 A8 A9 Av Au Ax hv;obtain ⟨gs,Ar⟩:∃ gs:Nat->Value,∀ t,a.tmps.getD t undef=gs t:=⟨_,fun _=>rfl⟩;rw [Ar] at hg;have ha:=dj_ (D:=[24,25,26,27,28,29,30,31,5]) hsz AE t_ hout Ar;simp only [List.foldl_cons,List.foldl_nil,Act.put,List.setIfInBounds_toArray,List.set_cons_zero,List.set_cons_succ] at ha;subst ha;refine hK1 _ _ ?_;go_meet;first | exact ⟨g,_,hg,AZ,AR,Ad,Ac⟩ | exact ⟨g,_,rfl,AZ,AR,Ad,Ac⟩
 case rest =>
 rename World=>w4
 obtain ⟨g5,z5,rfl,Cw,DN,AI,BA⟩:=hcut;clear HC HI Ab Bd;obtain ⟨l1,c1⟩:=AI.o.c1;obtain ⟨f1,C9⟩:=AI.o.c3;have Co:=AI.o.fz;have Bo:=AI.o.lt;have Cf:=(AI.o.set3 1).set1 3;have BD:=Kp.setm (X:=Zm d b) (Kp.setm (X:=Zm d b) (Kp.refl (Zm d b) w4) 3 (i_ 1)) 1 (i_ 3);obtain ⟨w5,Cr⟩:=ex_ ((w4.setCell (f_ b 3) (i_ 1)).setCell (f_ b 1) (i_ 3));rw [<-Cr] at Cf BD;have CJ:=q_ Cf;have BQ:=q_ (BA.o.trans BD);have Cn:b<W:=A2 b (A5.o b (.inr rfl));have AX:=q_ (Cw.o.up BD (fun k hk=>.inl (A5.o k hk)) (fun hk=>by have:=Ah.o _ hk;omega));clear Cf BD Cw;go_upto_region 7 with fail;rw [<-Cr];clear Cr c1 C9 Co Bo;go_cut [6] (fun v wx=>∃ g,v=.pointer (some (a_ g))/\Hid (∃ cs,Bx wx g cs/\VTs wx X0 20 (ah_ 1) cs/\pS cs)/\Hid (W<=g/\Below w5 w5 wx))
 case first =>
  have DM:(W:Nat)<=w5:=BQ.o.size;have Bt:∀ (v:World) (kd i:Int) (s:ByteArray),kd≠4->kd≠5->s.size<=100->ExV v X0 0 kd i s 0 none 0 0:=fun v kd i s h4 h5 hs=>⟨vts_ex0 _ _ _ _,pE_ex (fun h=>absurd h h4) (fun h=>absurd h h5) hs⟩
  have AL:=q_ Bt;have LX:=h_ (∀ v:World,(w5:Nat)<=v->∀ k,X0 k->k<v) (fun v hv k hk=>by have:=A2 k hk;omega);clear Bt;go_wp2_with fail;refine (num_m 0 w5).mono ?_;rintro e v1 ⟨rfl,CR⟩;have B1:=q_ CR;clear CR;go_wp2_with fail;refine (name_m ⟨#[110]⟩ v1).mono ?_;rintro e v2 ⟨rfl,A0⟩;have B2:=q_ (B1.o.trans (A0.mono B1.o.size));clear A0;go_wp2_with fail;refine (bin_m X0 0 10 1 0 ⟨#[]⟩ 0 none 0 0 3 0 ⟨#[110]⟩ 0 none 0 0 v2 (AL.o _ _ _ _ d_ d_ d_) (AL.o _ _ _ _ d_ d_ d_) (LX.o v2 B2.o.size)).mono ?_;rintro e v3 ⟨⟨kd,n',s,op,E,em,ec,rfl,hv⟩,CU⟩;have B3:=q_ (B2.o.trans (CU.mono B2.o.size));have T1:=q_ hv.o;clear CU hv;have AT:=q_ (Bx.new v3 (exL kd n' s op E em ec) 209);obtain ⟨U1,Az⟩:=ex_ (v3.alloc (.cells #[i_ kd,i_ n',.string s,i_ op,.slice E em ec] 209));have BH:=h_ (Bx U1 v3 (exL kd n' s op E em ec)) (by rw [Az];exact AT.o);have Ai:Below v3 v3 U1:=by rw [Az];exact av_ _ _ _
  have S1:=h_ (SlP U1 X0 20 pE (ay_ dE) (some (a_ v3)) 1 1) (SlP.one BH.out (fun h=>by have:=LX.o v3 B3.o.size _ h;omega) d_ (exprT_le d_ (T1.o.1.up (.of_below Ai) (l_)) T1.o.2) T1.o.2);have Cv:=q_ (B3.o.trans (Ai.mono B3.o.size));have D7:=q_ Az;clear Ai AT Az;go_wp2_with fail;rw [<-D7.o];refine (name_m ⟨#[97]⟩ U1).mono ?_;rintro e v4 ⟨rfl,AQ⟩;have B4:=q_ (Cv.o.trans (AQ.mono Cv.o.size));have P4:=q_ AQ;clear AQ;go_wp2_with fail;refine (name_m ⟨#[110]⟩ v4).mono ?_;rintro e v5 ⟨rfl,Cj⟩;have B5:=q_ (B4.o.trans (Cj.mono B4.o.size));have P5:=q_ (P4.o.trans (Cj.mono P4.o.size));clear Cj;go_wp2_with fail;refine (num_m 1 v5).mono ?_;rintro e v6 ⟨rfl,Ck⟩;have B6:=q_ (B5.o.trans (Ck.mono B5.o.size));have P6:=q_ (P5.o.trans (Ck.mono P5.o.size));clear Ck;go_wp2_with fail;refine (bin_m X0 0 2 3 0 ⟨#[110]⟩ 0 none 0 0 1 1 ⟨#[]⟩ 0 none 0 0 v6 (AL.o _ _ _ _ d_ d_ d_) (AL.o _ _ _ _ d_ d_ d_) (LX.o v6 B6.o.size)).mono ?_;rintro e v7 ⟨⟨Ct,n2,s2,Cu,E2,Cb,Ca,rfl,hv⟩,Cm⟩;have B7:=q_ (B6.o.trans (Cm.mono B6.o.size));have P7:=q_ (P6.o.trans (Cm.mono P6.o.size));have T2:=q_ hv.o;clear Cm hv;obtain ⟨U2,AA⟩:=ex_ (v7.alloc (.cells #[i_ 3,i_ 0,.string ⟨#[97]⟩,i_ 0,.slice none 0 0,i_ Ct,i_ n2,.string s2,i_ Cu,.slice E2 Cb Ca] 209));have Bu:=h_ (Bx U2 v7 (exL 3 0 ⟨#[97]⟩ 0 none 0 0 ++ exL Ct n2 s2 Cu E2 Cb Ca)) (by rw [AA];exact Bx.new v7 (exL 3 0 ⟨#[97]⟩ 0 none 0 0 ++ exL Ct n2 s2 Cu E2 Cb Ca) _);have Ag:Below v7 v7 U2:=by rw [AA];exact av_ _ _ _
  have Bj:(U2:Nat)=v7+1:=by rw [AA];simp
  have S2:=h_ (SlP U2 X0 20 pE (ay_ dE) (some (a_ v7)) 2 2) (SlP.two Bu.o (fun h=>by have:=LX.o v7 B7.o.size _ h;omega) d_ (exprT_le (Nat.zero_le _) (AL.o U2 3 0 ⟨#[97]⟩ d_ d_ d_).1 (AL.o U2 3 0 ⟨#[97]⟩ d_ d_ d_).2) (AL.o U2 3 0 ⟨#[97]⟩ d_ d_ d_).2 (exprT_le d_ (T2.o.1.up (.of_below Ag) (l_)) T2.o.2) T2.o.2);have CK:=q_ (P7.o.trans (Ag.mono P7.o.size));have BI:=q_ (B7.o.trans (Ag.mono B7.o.size));obtain ⟨U3,Bk⟩:=ex_ (U2.alloc (.cells #[i_ 3,.string ⟨#[98]⟩,.string ⟨#[102]⟩,i_ 0,i_ 0,.slice (some (a_ v7)) 2 2,.slice none 0 0,.slice none 0 0] 212));have D2:=h_ (Bx U3 U2 (stL 3 ⟨#[98]⟩ ⟨#[102]⟩ 0 0 (some (a_ v7)) 2 2 none 0 0 none 0 0)) (by rw [Bk];exact Bx.new U2 (stL 3 ⟨#[98]⟩ ⟨#[102]⟩ 0 0 (some (a_ v7)) 2 2 none 0 0 none 0 0) _);have AD:Below U2 U2 U3:=by rw [Bk];exact av_ _ _ _
  have Bl:(U3:Nat)=U2+1:=by rw [Bk];simp
  have Bs:pS (stL 3 ⟨#[98]⟩ ⟨#[102]⟩ 0 0 (some (a_ v7)) 2 2 none 0 0 none 0 0):=pS_st x_ x_ (fun _=>.inl d_) d_ d_;have S3:=h_ (SlP U3 X0 20 pS (ah_ 0) (some (a_ U2)) 1 1) (SlP.one D2.o (fun h=>by have:=LX.o U2 BI.o.size _ h;omega) d_ (ec_ (S2.o.below AD)) Bs);have Dt:=q_ (CK.o.trans (AD.mono CK.o.size));have Bv:=q_ (BI.o.trans (AD.mono BI.o.size));have Du:=q_ (S1.o.below Dt.o);obtain ⟨CS,AM⟩:=ex_ (stL 4 ⟨#[]⟩ ⟨#[]⟩ 0 0 (some (a_ v3)) 1 1 (some (a_ U2)) 1 1 none 0 0);have Cc:VTs U3 X0 20 (ah_ 1) CS:=by rw [AM];exact vts_st Du.out S3.o (SlP.nil _ _ _ _ _)
  have CL:pS CS:=by rw [AM];exact pS_st x_ x_ x_ d_ d_
  obtain ⟨U4,BE⟩:=ex_ (U3.alloc (.cells #[i_ 0,.string ⟨#[]⟩,.string ⟨#[]⟩,i_ 0,i_ 0,.slice none 0 0,.slice none 0 0,.slice none 0 0] 212));have AQ:Bx U4 U3 zst:=by rw [BE];exact Bx.new U3 zst _
  have AP:Below U3 U3 U4:=by rw [BE];exact av_ _ _ _
  have CO:Kp (fun k=>X0 k\/U3<=k) U3 (U4.setCells U3 0 CS):=ag_ _ _ _ (Kp.of_below AP) (.inl (.inr (l_)));have Bh:VTs (U4.setCells U3 0 CS) X0 20 (ah_ 1) CS:=(Cc.kept (Y:=fun k=>X0 k\/U3<=k) (Kp.refl _ _) (fun k hk h1 h2=>by rcases h2 with h2 | h2;exact h1 h2;omega) (l_)).kept CO (fun k _ h1 h2=>h1 (.inl h2)) (l_);have AY:=h_ ((∃ cs,Bx (U4.setCells U3 0 CS) U3 cs/\VTs (U4.setCells U3 0 CS) X0 20 (ah_ 1) cs/\pS cs)/\((W:Nat)<=U3/\Below w5 w5 (U4.setCells U3 0 CS))) (⟨⟨CS,AQ.all CS (by rw [AM];rfl),Bh,CL⟩,by have:=Bv.o.size;omega,(ag_ (X:=fun _=>False) _ _ _ (Kp.of_below (Bv.o.trans (AP.mono Bv.o.size))) (.inr Bv.o.size)).below (l_) (fun _ _ h=>h)⟩);have BV:=q_ AQ;have IG:=h_ ((prog.info? 212).map (·.size)=some CS.length) (by rw [AM];exact isz8);have LV:=h_ (zst.length=8) rfl;have De:=h_ (CS.length<=8) (by rw [AM];exact Nat.le_refl 8);have Di:=q_ Cc.one;have D6:=q_ AM;have D8:=q_ AA;have D9:=q_ Bk;have Da:=q_ BE;have C7:=q_ Bj;have C8:=q_ Bl;clear Cc CL AQ AP CO Bh Bs Ag AD AA Bk BE AM Bj Bl;go_upto_block 99 with (first
   | (rw [<-D8.o,<-D9.o,<-Da.o];with_reducible refine ab_ (b:=U3) (o:=0) rfl 212 (.tmp 6) (.tmp 49) rfl CS (by simp [Act.eval,Act.put,C7.o,C8.o]) (by rw [D6.o];simp [Act.eval,Act.put,stL,C7.o,C8.o]) (BV.o.ai_ LV.o De.o) IG.o Di.o ?_)
   | fail)
  go_meet;exact ⟨U3,by rw [C8.o,C7.o],q_ AY.o.1,q_ AY.o.2⟩
 case rest =>
 rename World=>w6
 obtain ⟨g6,rfl,Dk,AU⟩:=hcut;have DO:W<=g6:=AU.o.1;have Dg:=q_ (CJ.o.below AU.o.2);have C0:=Dg;have CI:=q_ (BQ.o.bb_ AU.o.2);have Ao:=h_ ((W:Nat)<=w6) CI.o.size;have Bw:=q_ (AX.out.up (Z:=fun _=>False) (Kp.of_below AU.o.2) (fun _ h=>h.elim) (fun h=>h));clear AX CJ BQ AU AI BA;have Af:∀ k,((x1 X0):XE) k->k<w6:=fun k hk=>lt_ (A2 k hk) Ao.o
 have BJ:=q_ (Nat.le_refl w6);have BS:=q_ (Kp.refl (Zm d b) w6);have Ab:(w6:Nat)<=w6:=BJ.o;have HC:=q_ (InvP.ic (d:=d) (b:=b) (X:=(x1 X0)) (w0:=w6) (J:=fun w2=>∃ cs,Bx w2 g6 cs/\VTs w2 X0 20 (ah_ 1) cs/\pS cs) A5.o (fun w w' hk ⟨cs,h1,h2,h3⟩=>⟨cs,h1.kp hk (fun hk=>by have:=Ah.o _ hk;omega),h2.up (hk.mono (fun k _ hk=>A5.o k hk)) (l_),h3⟩) (fun _=>trivial));have HI:=h_ (InvP d b X0 w6 (fun w2=>∃ cs,Bx w2 g6 cs/\VTs w2 X0 20 (ah_ 1) cs/\pS cs) w6) (⟨C0.o,Kp.refl _ _,fun k hk=>by have:=Af k hk;omega,Dk.o⟩);go_upto_region 8 with fail;go_cut [7] (fun v wx=>∃ g gp B m c,v=.pointer (some (a_ g))/\m<=11/\(m=0->B=none)/\w6<=g/\Hid (Bx wx g [.string nmF,.slice (some (a_ gp)) 2 2,.slice B m c])/\Hid (StrC wx X0 gp)/\Hid (OwP wx w6 212 pS (ah_ 3) X0 20 B m c)/\Hid (Mk d b 0 wx)/\Hid (Kp (Zm d b) w6 wx))
 case first =>
  rename_i J1 K1 hJ1 hK1
  refine eq_ (X:=(x1 X0)) (Inv:=InvP d b X0 w6 (fun w2=>∃ cs,Bx w2 g6 cs/\VTs w2 X0 20 (ah_ 1) cs/\pS cs)) (ks:=fun i=>([(bs_ (x1 X0) (2)),(kEx (x1 X0) (0)),(kSt (x1 X0) (0)),(kEx (x1 X0) (0)),(kSt (x1 X0) (0)),(kEx (x1 X0) (0)),(kSt (x1 X0) (0)),(kEx (x1 X0) (0)),(kSt (x1 X0) (0)),(kEx (x1 X0) (0)),(kSt (x1 X0) (0)),(kEx (x1 X0) (0)),(kSt (x1 X0) (0)),(kEx (x1 X0) (0)),(kSt (x1 X0) (0)),(kSt (x1 X0) (1)),(kOl (x1 X0) w6 Af 3 8),(kV (x1 X0) (pt b)),(kOt (x1 X0) w6 Af 2 3),(kOt (x1 X0) w6 Af 3 11),(kFnS (x1 X0) w6 Af nmF 3 11),(kVarF (x1 X0) w6),(kAny (x1 X0))]:List (SK (x1 X0))).getD i (kAny (x1 X0))) 22 rfl k_ rfl rfl k_ (HC.o.below HI.o (Below.drew (b_))) ?_ ?_
  ·intro i o hne ho a w hI hout hin
   match i,ho,hne with
   | 0,ho,_=>cases ho;exact rk_bst2 HC.o rfl d_ d_ hI
   | 1,ho,_=>cases ho;exact rk_num HC.o rfl rfl hI
   | 2,ho,_=>cases ho;exact dg_ HC.o rfl ⟨_,rfl,d_⟩ (bg_ (d':=dE) zn_ (show (kEx (x1 X0) (0)).p w _ from H1_)) hI
   | 3,ho,_=>cases ho;exact rk_num HC.o rfl rfl hI
   | 4,ho,_=>cases ho;exact dg_ HC.o rfl ⟨_,rfl,d_⟩ (bg_ (d':=dE) zn_ (show (kEx (x1 X0) (0)).p w _ from H3_)) hI
   | 5,ho,_=>cases ho;exact rk_num HC.o rfl rfl hI
   | 6,ho,_=>cases ho;exact dg_ HC.o rfl ⟨_,rfl,d_⟩ (bg_ (d':=dE) zn_ (show (kEx (x1 X0) (0)).p w _ from H5_)) hI
   | 7,ho,_=>cases ho;exact eh_ HC.o rfl ⟨_,rfl,d_⟩ hI
   | 8,ho,_=>cases ho;exact dg_ HC.o rfl ⟨_,rfl,d_⟩ (bg_ (d':=dE) zn_ (show (kEx (x1 X0) (0)).p w _ from H7_)) hI
   | 9,ho,_=>cases ho;exact rk_num HC.o rfl rfl hI
   | 10,ho,_=>cases ho;exact dg_ HC.o rfl ⟨_,rfl,d_⟩ (bg_ (d':=dE) zn_ (show (kEx (x1 X0) (0)).p w _ from H9_)) hI
   | 11,ho,_=>cases ho;exact rk_num HC.o rfl rfl hI
   | 12,ho,_=>cases ho;exact dg_ HC.o rfl ⟨_,rfl,d_⟩ (bg_ (d':=dE) zn_ (show (kEx (x1 X0) (0)).p w _ from H11_)) hI
   | 13,ho,_=>cases ho;exact rk_num HC.o rfl rfl hI
   | 14,ho,_=>cases ho;exact dg_ HC.o rfl ⟨_,rfl,d_⟩ (bg_ (d':=dE) zn_ (show (kEx (x1 X0) (0)).p w _ from H13_)) hI
   | 15,ho,_=>cases ho;obtain ⟨cs,j1,j2,j3⟩:=hI.j;exact rk_lst8 (D:=0) rfl (hout 6 d_) j1 j2 j3 hI
   | 16,ho,_=>cases ho;exact rk_ol8 (hB:=Af) (Nat.le_trans Ab hI.kp.size) HC.o rfl (di_ (d':=3) d_ (show (kSt (x1 X0) 0).p w _ from H2_)) (di_ (d':=3) d_ (show (kSt (x1 X0) 0).p w _ from H4_)) (di_ (d':=3) d_ (show (kSt (x1 X0) 0).p w _ from H6_)) (di_ (d':=3) d_ (show (kSt (x1 X0) 0).p w _ from H8_)) (di_ (d':=3) d_ (show (kSt (x1 X0) 0).p w _ from H10_)) (di_ (d':=3) d_ (show (kSt (x1 X0) 0).p w _ from H12_)) (di_ (d':=3) d_ (show (kSt (x1 X0) 0).p w _ from H14_)) (di_ (d':=3) d_ (show (kSt (x1 X0) 1).p w _ from H15_)) hI
   | 17,ho,_=>cases ho;exact bl_ (.inl rfl) (show (kV (x1 X0) (pt b)).p w _ from (hout 3 d_)) hI
   | 18,ho,_=>cases ho;exact rk_listo (hB:=Af) (n:=2) (Nat.le_trans Ab hI.kp.size) HC.o ls1 d_ d_ rfl H17_ rfl rfl hI
   | 19,ho,_=>cases ho;obtain ⟨C,m,d1,hy,hm,_,hO⟩:=(show (kOt (x1 X0) w6 Af 2 3).p w _ from H18_);refine RnK.imp (κ:=kOt (x1 X0) w6 Af 3 (8+m)) ?_ (fun w v h=>kOt_le o_ h);exact rk_appf (hB:=Af) (k:=8) (m:=m) (Nat.le_trans Ab hI.kp.size) HC.o d_ o_ rfl H16_ hy ((hO.le d_).slP Af o_) hI
   | 20,ho,_=>cases ho;exact rk_fnS (hB:=Af) (S:=nmF) rfl H0_ H19_ hI
   | 21,ho,_=>cases ho;exact rk_varf HC.o hI.kp.size rfl hI
   | 22,_,hne=>exact absurd rfl hne
   | q+23,ho,_=>exact n_ ho
  intro a w2 hI hsz AE hout Am K hK;obtain ⟨g,hg,AF,CX,Ak⟩:(kVarF (x1 X0) w6).p w2 (a.tmps.getD 7 undef):=Am 21 _ _ d_ rfl rfl;obtain ⟨gp,B,m,c,hv,hP,hm,AG,hO⟩:(kFnS (x1 X0) w6 Af nmF 3 11).p w2 (a.tmps.getD 70 undef):=Am 20 _ _ d_ rfl rfl;refine wp_store_mid 194 (.tmp 7) (.tmp 70) rfl g 0 _ hg hv (Ak.there (Nat.le_refl 3)) isz3f (by simp [Value.oneCell']) (hK _ _ ?_);have Cn:b<w6:=Af b (A5.o b (.inr rfl));have AR:w6<=g:=Nat.le_trans Ab AF;have A4:=fn_set (s1:=nmF) (A1:=some (a_ gp)) (n1:=2) (c1:=2) (B1:=B) (m1:=m) (d1:=c) (zfn_bx Ak) d_;have A0:=Ak.all [.string nmF,.slice (some (a_ gp)) 2 2,.slice B m c] rfl;have A8:=hP.kp (ag_ (X:=fun k=>k=g) g [.string nmF,.slice (some (a_ gp)) 2 2,.slice B m c] 0 (Kp.refl _ w2) (.inl rfl)) (fun e=>by obtain ⟨s,hs,_⟩:=hP.2.2 1 d_;have h2:=Ak.2.1 1 _ rfl;rw [e] at hs;rw [hs] at h2;cases h2);have A9:=(hO.slP Af o_).setf A4;have Av:=hI.ok.setsO (rb:=g) o_ 0 [.string nmF,.slice (some (a_ gp)) 2 2,.slice B m c];have Au:=ag_ (X:=Zm d b) g [.string nmF,.slice (some (a_ gp)) 2 2,.slice B m c] 0 (BS.o.trans hI.kp) (.inr AR);have Ax:=hO.setf A4 (fun q hq=>by
   have hne:(Value.slice B m c).ownBlock≠some g:=by
    rcases Nat.eq_zero_or_pos m with h | h
    ·rw [AG h];exact fun h=>by cases h
    exact own_nofn hO h (zfn_bx Ak)
   rw [hq] at hne
   exact (ag_ (X:=fun k=>k=g) g [.string nmF,.slice (some (a_ gp)) 2 2,.slice B m c] 0 (Kp.refl _ w2) (.inl rfl)).block q (hO.blk hq).2 (fun e=>hne xq_))
  obtain ⟨W2,Aa⟩:=ex_ (w2.setCells g 0 [.string nmF,.slice (some (a_ gp)) 2 2,.slice B m c]);rw [<-Aa] at A0 A8 A9 Av Au Ax;show (Exit.then _ _) Exit.normal a (w2.setCells g 0 [.string nmF,.slice (some (a_ gp)) 2 2,.slice B m c])
  rw [<-Aa];have Ad:=q_ Av;have Ac:=q_ Au;have An:=q_ A0;have Aq:=q_ A8;have Ap:=q_ Ax;clear Aa A4 A0 A8 A9 Av Au Ax hv;obtain ⟨gs,Ar⟩:∃ gs:Nat->Value,∀ t,a.tmps.getD t undef=gs t:=⟨_,fun _=>rfl⟩;rw [Ar] at hg;have ha:=dj_ (D:=[50,51,52,53,54,55,56,57,58,59,60,61,62,63,64,65,66,67,68,69,70,7]) hsz AE t_ hout Ar;simp only [List.foldl_cons,List.foldl_nil,Act.put,List.setIfInBounds_toArray,List.set_cons_zero,List.set_cons_succ] at ha;subst ha;refine hK1 _ _ ?_;go_meet;first | exact ⟨g,gp,B,m,c,hg,hm,AG,AF,An,Aq,Ap,Ad,Ac⟩ | exact ⟨g,gp,B,m,c,rfl,hm,AG,AF,An,Aq,Ap,Ad,Ac⟩
 case rest =>
 rename World=>w7
 obtain ⟨g7,gp,B7,m7,d7,rfl,DP,Br,Dz,Cy,BP,CB,Ba,BR⟩:=hcut;clear HC HI Ab;have Cp:W<=g7:=Nat.le_trans Ao.o Dz;obtain ⟨l1,c1⟩:=Ba.o.c1;obtain ⟨f1,C9⟩:=Ba.o.c3;have Co:=Ba.o.fz;have Bo:=Ba.o.lt;have Cg:=(Ba.o.set3 2).set1 3;have AS:=Kp.setm (X:=Zm d b) (Kp.setm (X:=Zm d b) (Kp.refl (Zm d b) w7) 3 (i_ 2)) 1 (i_ 3);obtain ⟨w8,Cs⟩:=ex_ ((w7.setCell (f_ b 3) (i_ 2)).setCell (f_ b 1) (i_ 3));rw [<-Cs] at Cg AS;have DK:=h_ (∀ k,Zm d b k->k<W) Ah.o;have C1:=q_ Cg;have AJ:=q_ (BR.o.trans AS);have AB:=q_ (Cy.o.kp AS (fun hk=>by have:=Ah.o _ hk;omega));have As:=q_ (BP.o.kp AS (fun hk=>BP.o.2.1 (A5.o _ hk)));have Ae:=q_ (CB.o.kpz AS (fun k hk=>A5.o k hk) (fun k hk=>by have:=Ah.o k hk;have:=Ao.o;omega));have Cx:=q_ (Bw.o.up AJ.o (fun k hk=>.inl (A5.o k hk)) (fun hk=>by have:=Ah.o _ hk;omega));have DL:(w6:Nat)<=w8:=AJ.o.size;obtain ⟨XQ,BF⟩:∃ XQ:NP,XQ=fun k=>X0 k\/(Value.slice B7 m7 d7).ownBlock=some k:=⟨_,rfl⟩
 have Ay:=h_ ((∀ k,XQ k->X0 k\/(Value.slice B7 m7 d7).ownBlock=some k)/\(∀ k,X0 k->XQ k)/\∀ k,(Value.slice B7 m7 d7).ownBlock=some k->XQ k) (⟨fun k hk=>by rw [BF] at hk;exact hk,fun k hk=>by rw [BF];exact .inl hk,fun k hk=>by rw [BF];exact .inr hk⟩);have A7:∀ k,(⟨XQ,fun _=>True⟩:XE) k->k<w8:=fun k hk=>by
  rcases Ay.o.1 k hk with h | h
  ·have:=Af k h;omega
  exact (Ae.o.blk h).2
 have Be:=h_ (∀ k,Zm d b k->(⟨XQ,fun _=>True⟩:XE) k) (fun k hk=>Ay.o.2.1 k (A5.o k hk));have BK:=q_ (Nat.le_refl w8);have BT:=q_ (Kp.refl (Zm d b) w8);clear Cg AS BF Cy BP CB;go_upto_region 10 with fail;rw [<-Cs];clear Cs c1 C9 Co Bo;have Ab:(w8:Nat)<=w8:=BK.o;have HC:=q_ (InvP.ic (d:=d) (b:=b) (X:=⟨XQ,fun _=>True⟩) (w0:=w8) (J:=fun _=>True) Be.o (fun _ _ _ _=>trivial) (fun _=>trivial));have HI:=h_ (InvP d b XQ w8 (fun _=>True) w8) (⟨C1.o,Kp.refl _ _,fun k hk=>by have:=A7 k hk;omega,trivial⟩);go_upto_region 10 with fail;go_cut [8] (fun v wx=>∃ g P np cp B m c,v=.pointer (some (a_ g))/\m<=11/\(m=0->B=none)/\w8<=g/\Hid (Bx wx g [.string nmG,.slice P np cp,.slice B m c])/\Hid (SlT wx XQ 20 [.sat strP] P np cp)/\Hid (OwP wx w8 212 pS (ah_ 3) XQ 20 B m c)/\Hid (Mk d b 0 wx)/\Hid (Kp (Zm d b) w8 wx))
 case first =>
  rename_i J1 K1 hJ1 hK1
  refine region_kzl (X:=⟨XQ,fun _=>True⟩) (Inv:=InvP d b XQ w8 (fun _=>True)) (ks:=fun i=>([(bs_ ⟨XQ,fun _=>True⟩ (1)),(kV ⟨XQ,fun _=>True⟩ (pt b)),(kOt ⟨XQ,fun _=>True⟩ w8 A7 2 3),(bs_ ⟨XQ,fun _=>True⟩ (3)),(kOt ⟨XQ,fun _=>True⟩ w8 A7 3 11),(kFn ⟨XQ,fun _=>True⟩ w8 A7 nmG 3 11),(kVarF ⟨XQ,fun _=>True⟩ w8),(kAny ⟨XQ,fun _=>True⟩)]:List (SK ⟨XQ,fun _=>True⟩)).getD i (kAny ⟨XQ,fun _=>True⟩)) 7 k_ rfl rfl HI.o ?_ ?_
  ·intro i o hne ho a w hI hout hin
   match i,ho,hne with
   | 0,ho,_=>cases ho;exact rk_bst1 HC.o rfl d_ hI
   | 1,ho,_=>cases ho;exact bl_ (.inl rfl) (show (kV ⟨XQ,fun _=>True⟩ (pt b)).p w _ from (hout 3 d_)) hI
   | 2,ho,_=>cases ho;exact rk_listo (hB:=A7) (n:=2) (Nat.le_trans Ab hI.kp.size) HC.o ls1 d_ d_ rfl H1_ rfl rfl hI
   | 3,ho,_=>cases ho;exact rk_bst3 HC.o rfl d_ d_ d_ hI
   | 4,ho,_=>cases ho;exact rk_first (hB:=A7) (q:=3) (Nat.le_trans Ab hI.kp.size) HC.o d_ rfl (kOt_d d_ (show (kOt ⟨XQ,fun _=>True⟩ w8 A7 2 3).p w _ from H2_)) H3_ hI
   | 5,ho,_=>cases ho;exact rk_fn3 (hB:=A7) (S:=nmG) (k:=1) d_ rfl H0_ H4_ hI
   | 6,ho,_=>cases ho;exact rk_varf HC.o hI.kp.size rfl hI
   | 7,_,hne=>exact absurd rfl hne
   | q+8,ho,_=>exact n_ ho
  intro a w2 hI hsz AE hout Am K hK;obtain ⟨g,hg,AF,CX,Ak⟩:(kVarF ⟨XQ,fun _=>True⟩ w8).p w2 (a.tmps.getD 8 undef):=Am 6 _ _ d_ rfl rfl;obtain ⟨P,np,cp,B,m,c,hv,hP,hm,AG,hO⟩:(kFn ⟨XQ,fun _=>True⟩ w8 A7 nmG 3 11).p w2 (a.tmps.getD 82 undef):=Am 5 _ _ d_ rfl rfl;refine wp_store_mid 194 (.tmp 8) (.tmp 82) rfl g 0 _ hg hv (Ak.there (Nat.le_refl 3)) isz3f (by simp [Value.oneCell']) (hK _ _ ?_);have Cn:b<w8:=A7 b (Be.o b (.inr rfl));have AR:w8<=g:=Nat.le_trans Ab AF;have A4:=fn_set (s1:=nmG) (A1:=P) (n1:=np) (c1:=cp) (B1:=B) (m1:=m) (d1:=c) (zfn_bx Ak) d_;have A0:=Ak.all [.string nmG,.slice P np cp,.slice B m c] rfl;have A8:=hP.setf A4;have A9:=(hO.slP A7 o_).setf A4;have Av:=hI.ok.setsO (rb:=g) o_ 0 [.string nmG,.slice P np cp,.slice B m c];have Au:=ag_ (X:=Zm d b) g [.string nmG,.slice P np cp,.slice B m c] 0 (BT.o.trans hI.kp) (.inr AR);have Ax:=hO.setf A4 (fun q hq=>by
   have hne:(Value.slice B m c).ownBlock≠some g:=by
    rcases Nat.eq_zero_or_pos m with h | h
    ·rw [AG h];exact fun h=>by cases h
    exact own_nofn hO h (zfn_bx Ak)
   rw [hq] at hne
   exact (ag_ (X:=fun k=>k=g) g [.string nmG,.slice P np cp,.slice B m c] 0 (Kp.refl _ w2) (.inl rfl)).block q (hO.blk hq).2 (fun e=>hne xq_))
  obtain ⟨W2,Aa⟩:=ex_ (w2.setCells g 0 [.string nmG,.slice P np cp,.slice B m c]);rw [<-Aa] at A0 A8 A9 Av Au Ax;show (Exit.then _ _) Exit.normal a (w2.setCells g 0 [.string nmG,.slice P np cp,.slice B m c])
  rw [<-Aa];have AZ:=q_ (FnV.mk' A0 d_ A8 A9);have Ad:=q_ Av;have Ac:=q_ Au;have An:=q_ A0;have Aq:=q_ A8;have Ap:=q_ Ax;clear Aa A4 A0 A8 A9 Av Au Ax hv;obtain ⟨gs,Ar⟩:∃ gs:Nat->Value,∀ t,a.tmps.getD t undef=gs t:=⟨_,fun _=>rfl⟩;rw [Ar] at hg;have ha:=dj_ (D:=[77,78,79,80,81,82,8]) hsz AE t_ hout Ar;simp only [List.foldl_cons,List.foldl_nil,Act.put,List.setIfInBounds_toArray,List.set_cons_zero,List.set_cons_succ] at ha;subst ha;refine hK1 _ _ ?_;go_meet;first | exact ⟨g,P,np,cp,B,m,c,hg,hm,AG,AF,An,Aq,Ap,Ad,Ac⟩ | exact ⟨g,P,np,cp,B,m,c,rfl,hm,AG,AF,An,Aq,Ap,Ad,Ac⟩
 case rest =>
 rename World=>w9
 obtain ⟨g8,P8,n8,c8,B8,m8,d8,rfl,DQ,DE,DB,CD,CF,CE,Bc,AK⟩:=hcut;clear HC HI Ab;have AV:=h_ ((w8:Nat)<=w9) AK.o.size;have DF:(w8:Nat)<=w9:=AV.o;have DC:W<=g8:=by have:=Ao.o;omega
 have Ab:(w8:Nat)<=w9:=AV.o;have HC:=q_ (InvP.ic (d:=d) (b:=b) (X:=⟨XQ,fun _=>True⟩) (w0:=w8) (J:=fun w2=>Bx w2 g8 [.string nmG,.slice P8 n8 c8,.slice B8 m8 d8]/\SlT w2 XQ 20 [.sat strP] P8 n8 c8/\SlP w2 XQ 20 pS (ah_ 3) B8 m8 d8) Be.o (fun w w' hk ⟨h1,h2,h3⟩=>⟨h1.kp hk (fun hk=>by have:=Ah.o _ hk;omega),h2.up (hk.mono (fun k _ hk=>Be.o k hk)) (l_),SlP.kept h3 (hk.mono (fun k _ hk=>Be.o k hk)) (fun _ _ h=>h) (l_)⟩) (fun _=>trivial));have HI:=h_ (InvP d b XQ w8 (fun w2=>Bx w2 g8 [.string nmG,.slice P8 n8 c8,.slice B8 m8 d8]/\SlT w2 XQ 20 [.sat strP] P8 n8 c8/\SlP w2 XQ 20 pS (ah_ 3) B8 m8 d8) w9) (⟨Bc.o,AK.o,fun k hk=>by have:=A7 k hk;omega,⟨CD.o,CF.o,CE.o.slP A7 o_⟩⟩);go_upto_region 11 with fail;go_cut [8] (fun v wx=>v=.pointer (some (a_ g8))/\∃ z8,Hid (FnV XQ g8 z8 nmG wx)/\Hid (Mk d b 0 wx)/\Hid (Kp (Zm d b) w8 wx))
 case first =>
  rename_i J1 K1 hJ1 hK1
  refine eq_ (X:=⟨XQ,fun _=>True⟩) (Inv:=InvP d b XQ w8 (fun w2=>Bx w2 g8 [.string nmG,.slice P8 n8 c8,.slice B8 m8 d8]/\SlT w2 XQ 20 [.sat strP] P8 n8 c8/\SlP w2 XQ 20 pS (ah_ 3) B8 m8 d8)) (ks:=fun i=>([(kEx ⟨XQ,fun _=>True⟩ (0)),(kSt ⟨XQ,fun _=>True⟩ (0)),(kOl ⟨XQ,fun _=>True⟩ w8 A7 3 1),(kV ⟨XQ,fun _=>True⟩ (.pointer (some (f_ g8 2)))),(kV ⟨XQ,fun _=>True⟩ (.slice B8 m8 d8)),(kOt ⟨XQ,fun _=>True⟩ w8 A7 3 (1+m8)),(kV ⟨XQ,fun _=>True⟩ (.pointer (some (f_ g8 2)))),(kAny ⟨XQ,fun _=>True⟩)]:List (SK ⟨XQ,fun _=>True⟩)).getD i (kAny ⟨XQ,fun _=>True⟩)) 7 rfl k_ rfl rfl k_ (HC.o.below HI.o (Below.drew (b_))) ?_ ?_
  ·intro i o hne ho a w hI hout hin
   match i,ho,hne with
   | 0,ho,_=>cases ho;exact eh_ HC.o rfl ⟨_,rfl,d_⟩ hI
   | 1,ho,_=>cases ho;exact dg_ HC.o rfl ⟨_,rfl,d_⟩ (bg_ (d':=dE) zn_ (show (kEx ⟨XQ,fun _=>True⟩ (0)).p w _ from H0_)) hI
   | 2,ho,_=>cases ho;exact rk_ol1 (hB:=A7) hI.kp.size HC.o rfl (di_ (d':=3) d_ (show (kSt ⟨XQ,fun _=>True⟩ 0).p w _ from H1_)) hI
   | 3,ho,_=>cases ho;exact rk_fldf d_ rfl (hout 8 d_) hI
   | 4,ho,_=>cases ho;exact rk_load (.inr (.inr (.inr (.inr (.inl rfl))))) rfl H3_ (hI.j.1.2.1 2 _ rfl) rfl hI
   | 5,ho,_=>cases ho;exact rk_appf (hB:=A7) (k:=1) (m:=m8) hI.kp.size HC.o d_ o_ rfl H2_ H4_ hI.j.2.2 hI
   | 6,ho,_=>cases ho;exact rk_fldf d_ rfl (hout 8 d_) hI
   | 7,_,hne=>exact absurd rfl hne
   | q+8,ho,_=>exact n_ ho
  intro a w2 hI hsz AE hout Am K hK;have hg:a.tmps.getD 89 undef=.pointer (some (f_ g8 2)):=Am 6 _ _ d_ rfl rfl;obtain ⟨A',n',c',hv,DR,DS,hO⟩:(kOt ⟨XQ,fun _=>True⟩ w8 A7 3 (1+m8)).p w2 (a.tmps.getD 88 undef):=Am 5 _ _ d_ rfl rfl;obtain ⟨Aj,CN,Dv⟩:=hI.j;refine wp_store1 rfl hg hv (Aj.2.1 2 _ rfl) (Aj.2.2 2) (hK _ _ ?_);have A4:=fn_put (.slice A' n' c') Aj;have Bo:=Ah.o b (.inr rfl);have A0:Bx (w2.setCell (f_ g8 2) (.slice A' n' c')) g8 [.string nmG,.slice P8 n8 c8,.slice A' n' c']:=Aj.set 2 (.slice A' n' c');have A8:=CN.setf A4;have A9:=(hO.slP A7 o_).setf A4;have AN:=(show Md d b 0 w8 w2 from ⟨hI.ok,hI.kp⟩).new (p:=(f_ g8 2)) DB (by show b<g8;omega) (.slice A' n' c');obtain ⟨W2,Aa⟩:=ex_ (w2.setCell (f_ g8 2) (.slice A' n' c'));rw [<-Aa] at A0 A8 A9 AN;show (Exit.then _ _) Exit.normal a (w2.setCell (f_ g8 2) (.slice A' n' c'))
  rw [<-Aa];have AZ:=q_ (FnV.mk' A0 d_ A8 A9);have Bb:=q_ AN;clear Aa A4 A0 A8 A9 AN hv hg Aj CN Dv;obtain ⟨gs,Ar⟩:∃ gs:Nat->Value,∀ t,a.tmps.getD t undef=gs t:=⟨_,fun _=>rfl⟩;have ha:=dj_ (D:=[83,84,85,86,87,88,89]) hsz AE t_ hout Ar;simp only [List.foldl_cons,List.foldl_nil,Act.put,List.setIfInBounds_toArray,List.set_cons_zero,List.set_cons_succ] at ha;subst ha;refine hK1 _ _ ?_;go_meet;exact ⟨rfl,_,AZ,q_ Bb.o.ok,q_ Bb.o.kp⟩
 case rest =>
 rename World=>w10
 obtain ⟨rfl,z8,B0,BW,Al⟩:=hcut;clear HC HI Ab CD CF CE Bc AK;have AW:=q_ (Cx.o.up Al.o (fun k hk=>.inl (A5.o k hk)) (fun hk=>by have:=Ah.o _ hk;omega));have AH:=q_ (As.o.kp Al.o (fun hk=>As.o.2.1 (A5.o _ hk)));have D1:(w8:Nat)<=w10:=Al.o.size;have DG:g5<z5/\z5<=w6:=⟨Bw.o.gz,Bw.o.zl⟩;have Bo:=Ah.o b (.inr rfl);have Cq:(Value.slice B7 m7 d7).ownBlock≠some g7:=fun e=>by
  rcases Nat.eq_zero_or_pos m7 with h | h
  ·rw [Br h] at e;cases e
  exact own_nofn Ae.o h AB.o e
 have CC:=h_ (¬XQ gp) (fun hk=>by
  rcases Ay.o.1 gp hk with h | e
  ·exact As.o.2.1 h
  rcases Nat.eq_zero_or_pos m7 with h | h
  ·rw [Br h] at e;cases e
  obtain ⟨s,hs,_⟩:=As.o.2.2 0 d_
  exact own_nostr Ae.o h hs e)
 have BC:=h_ (RwF d b XQ X0 w6 g7 B7 m7 d7 W) (⟨A5.o,Ay.o.2.1,Ay.o.1,Ay.o.2.2,Af,Cq,o_,Ao.o,o_⟩);have CG:=h_ (∀ w',Below w10 w10 w'->InvW d b 0 XQ W g7 [.string nmF,.slice (some (a_ gp)) 2 2,.slice B7 m7 d7] w6 3 B7 m7 d7 w'/\Kp (⟨XQ,EvW X0 3 B7 m7 d7⟩:XE).x w10 w') (fun w' hb=>by
  have hk:Kp (Zm d b) w8 w':=Al.o.bb_ hb
  have h8:=hk.size
  refine ⟨⟨BW.o.below hb,(CI.o.trans AJ.o).trans hk,fun k hk=>by have:=A7 k hk;omega,AB.o.kp hk (fun hk=>by have:=Ah.o _ hk;omega),(Ae.o.kpz hk A5.o (fun k hk=>by have:=Ah.o k hk;have:=Ao.o;omega)).re (fun g hg=>(Ae.o.blk hg).1) (fun k _ hk=>Ay.o.1 k hk),o_⟩,Kp.of_below hb⟩)
 have Dc:=q_ Cq;clear Cq;go_upto_region 12 with fail;go_cut [7] (fun v wx=>v=.pointer (some (a_ g7))/\∃ zf,Hid (FnV X0 g7 zf nmF wx)/\Hid (FnV X0 g5 z5 nmMain wx)/\Hid (FnV XQ g8 z8 nmG wx)/\Hid (Mk d b 0 wx)/\Hid (Kp (Zm d b) W wx))
 case first =>
  rename_i J1 K1 hJ1 hK1
  refine eq_ (X:=⟨XQ,EvW X0 3 B7 m7 d7⟩) (Inv:=fun w=>InvW d b 0 XQ W g7 [.string nmF,.slice (some (a_ gp)) 2 2,.slice B7 m7 d7] w6 3 B7 m7 d7 w/\Kp (⟨XQ,EvW X0 3 B7 m7 d7⟩:XE).x w10 w) (ks:=fun i=>([(kV ⟨XQ,EvW X0 3 B7 m7 d7⟩ (.pointer (some (f_ g7 2)))),(kV ⟨XQ,EvW X0 3 B7 m7 d7⟩ (.slice B7 m7 d7)),(kV ⟨XQ,EvW X0 3 B7 m7 d7⟩ (pt b)),(kEx ⟨XQ,EvW X0 3 B7 m7 d7⟩ (2)),(kExs ⟨XQ,EvW X0 3 B7 m7 d7⟩ (dE) (1)),(kSt ⟨XQ,EvW X0 3 B7 m7 d7⟩ (0)),(kSt1 ⟨XQ,EvW X0 3 B7 m7 d7⟩ 3),(kApp XQ X0 3 B7 m7 d7),(kV ⟨XQ,EvW X0 3 B7 m7 d7⟩ (.pointer (some (f_ g7 2)))),(kAny ⟨XQ,EvW X0 3 B7 m7 d7⟩)]:List (SK ⟨XQ,EvW X0 3 B7 m7 d7⟩)).getD i (kAny ⟨XQ,EvW X0 3 B7 m7 d7⟩)) 9 rfl k_ rfl rfl k_ (CG.o _ (Below.drew (b_))) ?_ ?_
  ·have HC:=q_ (IC.withKp (w0:=w10) (InvW.ic (D:=3) (CS:=[.string nmF,.slice (some (a_ gp)) 2 2,.slice B7 m7 d7]) (lp:=0) BC.o));intro i o hne ho a w hI hout hin
   match i,ho,hne with
   | 0,ho,_=>cases ho;exact rk_fldf d_ rfl (hout 7 d_) hI
   | 1,ho,_=>cases ho;exact rk_load (.inr (.inr (.inr (.inr (.inl rfl))))) rfl H0_ (hI.1.bx.2.1 2 _ rfl) rfl hI
   | 2,ho,_=>cases ho;exact bl_ (.inl rfl) (show (kV ⟨XQ,EvW X0 3 B7 m7 d7⟩ (pt b)).p w _ from (hout 3 d_)) hI
   | 3,ho,_=>cases ho;exact ch_ (k:=1) HC.o (ck_ 1 d_) rfl H2_ rfl hI
   | 4,ho,_=>cases ho;exact dq_ HC.o rfl (bg_ (d':=dE) zn_ (show (kEx ⟨XQ,EvW X0 3 B7 m7 d7⟩ (2)).p w _ from H3_)) hI
   | 5,ho,_=>cases ho;exact rk_bs_05 rfl rfl (show (kExs ⟨XQ,EvW X0 3 B7 m7 d7⟩ (dE) (1)).p w _ from H4_) d_ d_ (fun h=>absurd h d_) hI
   | 6,ho,_=>cases ho;exact rk_st1 HC.o rfl (di_ (Nat.zero_le _) (show (kSt ⟨XQ,EvW X0 3 B7 m7 d7⟩ 0).p w _ from H5_)) hI
   | 7,ho,_ =>
    injection ho with ho;subst ho;refine RnK.withKp ?_ hI.2;exact rk_app BC.o rfl H1_ H6_ hI.1
   | 8,ho,_=>cases ho;exact rk_fldf d_ rfl (hout 7 d_) hI
   | 9,_,hne=>exact absurd rfl hne
   | q+10,ho,_=>exact n_ ho
  intro a w2 hI hsz AE hout Am K hK;have hg:a.tmps.getD 98 undef=.pointer (some (f_ g7 2)):=Am 8 _ _ d_ rfl rfl;obtain ⟨A',n',c',hv,h2⟩:(kApp XQ X0 3 B7 m7 d7).p w2 (a.tmps.getD 97 undef):=Am 7 _ _ d_ rfl rfl;have Aj:=hI.1.bx;refine wp_store1 rfl hg hv (Aj.2.1 2 _ rfl) (Aj.2.2 2) (hK _ _ ?_);have A4:=fn_put (.slice A' n' c') Aj;have BG:Kp (fun k=>k=g7) w2 (w2.setCell (f_ g7 2) (.slice A' n' c')):=(Kp.refl (fun k=>k=g7) w2).setCell (p:=(f_ g7 2)) (.inl rfl) (.slice A' n' c');have A0:Bx (w2.setCell (f_ g7 2) (.slice A' n' c')) g7 [.string nmF,.slice (some (a_ gp)) 2 2,.slice A' n' c']:=Aj.set 2 (.slice A' n' c');have Ch:StrC w2 X0 gp:=AH.o.kp hI.2 CC.o;have Bp:gp≠g7:=fun e=>by obtain ⟨s,hs,_⟩:=Ch.2.2 1 d_;have h2:=Aj.2.1 1 _ rfl;rw [e] at hs;rw [hs] at h2;cases h2
  have A8:=(Ch.kp BG Bp).slT;have A9:=(h2.slP BC.o.x2).setf A4;have Ce:=(AW.o.up hI.2 (fun k hk=>by
   rcases Ay.o.1 k hk with h | h
   ·exact .inl h
   ·have:=(Ae.o.blk h).1;exact .inr o_) (fun hk=>by
   rcases Ay.o.1 _ hk with h | h
   ·have:=A2 _ h;omega
   have:=(Ae.o.blk h).1;omega)).setf A4 (fun cs h=>h.kp BG (fun e=>o_))
  have DD:g7<w8:=AB.o.1;have Cd:=(B0.o.up hI.2 (fun k hk=>.inl hk) (fun h=>by have:=A7 _ h;omega)).setf A4 (fun cs h=>h.kp BG (fun e=>o_));have AN:=(show Md d b 0 W w2 from ⟨hI.1.ok,hI.1.kp⟩).new (p:=(f_ g7 2)) Cp (by show b<g7;omega) (.slice A' n' c');obtain ⟨W2,Aa⟩:=ex_ (w2.setCell (f_ g7 2) (.slice A' n' c'));rw [<-Aa] at A0 A8 A9 AN Ce Cd;show (Exit.then _ _) Exit.normal a (w2.setCell (f_ g7 2) (.slice A' n' c'))
  rw [<-Aa];have BM:=q_ (FnV.mk' A0 d_ A8 A9);have BO:=q_ Ce;have BN:=q_ Cd;have Bb:=q_ AN;clear Aa A4 A0 A8 A9 AN hv hg Aj Ce Cd BG Ch Bp h2;obtain ⟨gs,Ar⟩:∃ gs:Nat->Value,∀ t,a.tmps.getD t undef=gs t:=⟨_,fun _=>rfl⟩;have ha:=dj_ (D:=[90,91,92,93,94,95,96,97,98]) hsz AE t_ hout Ar;simp only [List.foldl_cons,List.foldl_nil,Act.put,List.setIfInBounds_toArray,List.set_cons_zero,List.set_cons_succ] at ha;subst ha;refine hK1 _ _ ?_;go_meet;exact ⟨rfl,_,BM,BO,BN,q_ Bb.o.ok,q_ Bb.o.kp⟩
 case rest =>
 rename World=>w11
 obtain ⟨rfl,zf,BM,BO,BN,BX,B9⟩:=hcut;clear AW AH BC CG Dc CC AB As Ae Cx B0 Bw;have Dx:¬Zm d b w:=fun h=>by rcases h with h | h <;> omega
 have AC:=q_ (Dj.o.kp B9.o Dx);obtain ⟨Pm,Bm,E3,DZ,mm,cm,CW,D0⟩:=BO.o.cells;obtain ⟨Pf,Bf,E0,DX,mf,cf,CV,CY⟩:=BM.o.cells;obtain ⟨Pg,Bg,E1,DY,mg,cg,Aj,CZ⟩:=BN.o.cells;have IG:=h_ (∀ a b c:Value,(prog.info? 194).map (·.size)=some [a,b,c].length) (fun _ _ _=>isz3f);have r0:=AC.o.2.1 0 _ rfl;have r1:=AC.o.2.2 0;have r2:=AC.o.1;have D5:=q_ CW;have D3:=q_ CV;have D4:=q_ Aj;have Dr:=q_ D0;have Dp:=q_ CY;have Dq:=q_ CZ;clear CW CV Aj D0 CY CZ;go_upto_region 13 with fail;go_wp2_with (first
  | (with_reducible refine ac_ rfl 194 (.tmp 5) rfl _ underlying194 rfl v_ D5.o.whole (IG.o _ _ _) ?_)
  | (with_reducible refine ac_ rfl 194 (.tmp 7) rfl _ underlying194 rfl v_ D3.o.whole (IG.o _ _ _) ?_)
  | (with_reducible refine ac_ rfl 194 (.tmp 8) rfl _ underlying194 rfl v_ D4.o.whole (IG.o _ _ _) ?_)
  | fail)
 have HE:=q_ (pg_end (r:=w) rfl Dy Dw HW.o B9.o BX.o.dice AC.o C6.o.2.1 C6.o.1 C6.o.2.2 Ay.o.2.1 Dr.o Dp.o Dq.o rfl rfl);refine retC results69 za_ underlying136 rfl isz1P (cs:=[.slice (some (a_ w11)) 3 3]) (HE.o _ rfl).1.whole rfl ?_;exact ⟨⟨_,rfl,q_ (HE.o _ rfl).2.1⟩,(HE.o _ rfl).2.2⟩
end Go.Proofs.YtfolidlmgfhkiaaGreat
