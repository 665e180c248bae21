/- Lemmas on functions of the program, under the conditions that each states. -/
import Derived.Test.YtfolidlmgfhkiaaGreatV24
set_option linter.unusedVariables false
set_option linter.unusedSimpArgs false
set_option maxRecDepth 100000
set_option maxHeartbeats 16000000
namespace Go.Proofs.YtfolidlmgfhkiaaGreat
open Go.RowKit Go.Proofs.Tryz
theorem lit_num {K:Nat} {w:World} {Y:NP} (i:Int) (h:¬Y w) (hK:1<=K):SlT (w.alloc (.cells #[i_ i] 3)) Y K [.num] (some (a_ w)) 1 1 :=
 SlT.lit1 (VTs.cons (.num i) VTs.nil) 3 h hK
theorem mark_e (b F:Nat) (pv:Nat->Value) (qs:List Nat) (N o:Nat) (G:NP) (w:World) (h:GC b F pv qs N N o G w) (hN:N<=10000000000) (A:OA) (n c:Nat) (x3:w.cell? (f_ b 3)=some (.slice A n c)) :
  Calls prog 110 #[.pointer (some (a_ b))] w.drew fun e w1=>e=.returned (i_ (N:Int))/\∃ G2,Hid (GC b F pv qs (N+1) (N+1) o G2 w1)/\Hid (Up w G w1 G2)/\w1.cell? (f_ b 3)=some (.slice A n c)/\b<w1/\n<=N+1/\Hid (OwT (w1.alloc (.cells #[i_ (N:Int)] 3)) 0 3 [.num] G2 (N+2) A n c)/\Hid (SlT (w1.alloc (.cells #[i_ (N:Int)] 3)) (Wi G2 (Value.slice A n c).ownBlock) (N+2) [.num] (some (a_ w1)) 1 1):=by
 have hd:GC b F pv qs N N o G w.drew:=h.below (Below.drew (b_));have A0:n<=N+1:=by
  obtain ⟨A',n',c',hc,hn,_⟩:=h.own (j:=3) rfl rfl;rw [x3] at hc;injection hc with hc;injection hc with q1 q2 q3;subst q2;exact hn
 obtain ⟨v,x2,hv⟩:=h.cell (j:=2) rfl rfl;obtain ⟨m,rfl⟩:=hv.int;have fz:=h.fz 2;obtain ⟨g1,u1,k1⟩:=hd.set (j:=2) (v:=i_ (wrap64 (m+1))) rfl rfl (.num _);have H1:=q_ g1;have U1:=q_ ((Up.of_below (Below.drew (Below.refl w w))).trans u1);have K1:=q_ ((k1.2 3 o_ o_).trans (show w.drew.cell? (f_ b 3)=_ from x3));clear hv h g1 u1 k1 x3 hd;go_enter func110,ntmps110;go_wp2_with (go_at_call 112;refine (bv_ b F pv qs N o G _ H1.o hN _ _ _ _ _).mono ?_;rintro e w1 ⟨rfl,G2,h2,u2,k2,_⟩);go_ret;have y3:w1.cell? (f_ b 3)=some (.slice A n c):=(k2.o.2 3 o_ o_).trans K1.o;obtain ⟨A',n',c',hc,hn,hO,hG,_⟩:=h2.o.own (j:=3) rfl rfl;rw [y3] at hc;injection hc with hc;injection hc with q1 q2 q3;subst q1 q2 q3;exact ⟨rfl,G2,h2,q_ (U1.o.trans u2.o),y3,h2.o.blt,A0,q_ (hO.below ((b_).alloc (l_) _)),q_ (lit_num _ (fun hx=>by
  rcases hx with hx | hx
  ·exact Nat.lt_irrefl _ (h2.o.lt _ hx)
  exact Nat.lt_irrefl _ (h2.o.lt _ (hG _ hx))) o_)⟩
theorem own_el {w:World} {base:Nat} {et:TypeId} {e:List CT} {X:NP} {K m c g:Nat} (h:OwT w base et e X K (some (a_ g)) m c) (k j:Nat) {t:CT} (hk:k<m) (hj:e[j]?=some t):∃ u,w.cell? ⟨g,k*e.length+j,none⟩=some u/\VT w (Wi X (some g)) K t u:=by
 obtain ⟨xs,ho,hx⟩:=h;obtain ⟨u,hu,hv⟩:=hx k j t hk hj;have A1:j<e.length:=(e_ hj).1;have A0:k*e.length+j<m*e.length:=by
  exact v1_
 exact ⟨u,wm_,hv⟩
theorem own_some {w:World} {base:Nat} {et:TypeId} {e:List CT} {X:NP} {K m c:Nat} {A:OA} (h:OwT w base et e X K A m c) (hm:0<m):∃ g,A=some (a_ g)/\g<w:=by
 obtain ⟨xs,ho,_⟩:=h;obtain ⟨g,rfl,_,hg,_⟩:=dp_ ho hm;exact ⟨g,rfl,hg⟩
theorem OwT.ins_any {w:World} {base:Nat} {et:TypeId} {X Y:NP} {K m c:Nat} {A:OA} (h:OwT w base et aw_ X K A m c):OwT w base et aw_ Y K A m c:=by
 obtain ⟨xs,ho,hx⟩:=h;refine ⟨xs,ho,fun k j t hk hj=>?_⟩;obtain ⟨u,hu,hv⟩:=hx k j t hk hj;have ht:t=.num:=by
  have A0:j<5:=(e_ hj).1
  match j,A0,hj with
  | 0,_,hj=>injection hj with hj;exact hj.symm
  | 1,_,hj=>injection hj with hj;exact hj.symm
  | 2,_,hj=>injection hj with hj;exact hj.symm
  | 3,_,hj=>injection hj with hj;exact hj.symm
  | 4,_,hj=>injection hj with hj;exact hj.symm
 subst ht;obtain ⟨i,rfl⟩:=hv.int;exact ⟨_,hu,.num i⟩
def RLow (X:NP) (e:Ending) (w:World):Prop:=∃ (LA:OA) (ln lc:Nat) (v s ev:Int),e=.returned (.tuple #[.agg #[.slice LA ln lc,i_ v,i_ s],i_ ev])/\Hid (SlT w X 2048 aw_ LA ln lc)
theorem slt_k {w:World} {X:NP} {K K' n c:Nat} {A:OA} (h:SlT w X K aw_ A n c) (hn:n<=K'):SlT w X K' aw_ A n c:=by
 refine ⟨hn,h.cap,h.max,h.nul,fun ad hA=>?_⟩;obtain ⟨g,o,e,hg,hX,f,hf,ht⟩:=h.at_ ad hA;refine ⟨g,o,e,hg,hX,f,hf,fun k j t hk hj=>?_⟩;have:=ht k j t hk hj;have A0:j<5:=(e_ hj).1
 match j,A0,hj with
 | 0,_,hj=>injection hj with hj;subst hj;obtain ⟨i,hi⟩:=this.int;rw [hi];exact .num i
 | 1,_,hj=>injection hj with hj;subst hj;obtain ⟨i,hi⟩:=this.int;rw [hi];exact .num i
 | 2,_,hj=>injection hj with hj;subst hj;obtain ⟨i,hi⟩:=this.int;rw [hi];exact .num i
 | 3,_,hj=>injection hj with hj;subst hj;obtain ⟨i,hi⟩:=this.int;rw [hi];exact .num i
 | 4,_,hj=>injection hj with hj;subst hj;obtain ⟨i,hi⟩:=this.int;rw [hi];exact .num i
theorem slt_no (w:World) (X:NP):SlT w X 2048 aw_ none 0 0:=⟨Nat.zero_le _,l_,o_,fun _=>⟨rfl,rfl⟩,fun _ h=>by cases h⟩
theorem Lower_t (X:NP) (dp:Nat) (hdp:dp<=3) (A:OA) (n c:Nat) (w:World) (h:PgT w X dp A n c) (hn1:1<=n) (hn3:n<=3) (hX:∀ k,X k->k<w) :
  Calls prog 68 #[.agg #[.slice A n c]] w fun e w'=>RLow X e w'/\Below w w w':=by
 have BV:cl dp<=1100000000:=by
  match dp,hdp with
  | 0,_=>decide
  | 1,_=>decide
  | 2,_=>decide
  | 3,_=>decide
 have BW:20+cw dp<=900000000:=by
  match dp,hdp with
  | 0,_=>decide
  | 1,_=>decide
  | 2,_=>decide
  | 3,_=>decide
 obtain ⟨W,hW,Bm,BS,B0,B1⟩:=cb_ w [.slice A n c] 136 [.slice none 0 0,i_ 0,i_ 0] 26;have HP:=q_ h;have HW:=q_ Bm;have B8:=q_ B1;have BD:=q_ B0;have C6:(w:Nat)+1<W:=by omega
 have p0:=B0.2.1 0 _ rfl;clear B0 B1 Bm BS h;go_enter func68,ntmps68;go_upto_region 1 with fail;rw [<-hW];clear hW;go_wp2_with fail;refine (Check07_t X dp hdp A n c W (HP.o.sl.up (Kp.of_below HW.o) (l_))).mono ?_;rintro e W1 ⟨⟨r0,r1,rfl⟩,AO⟩;have H1:=q_ AO;have Aj:=q_ (B8.o.below AO);clear AO p0;by_cases hr1:r1=0
 case neg =>
  have z0:=Aj.o.2.1 0 _ rfl;have z1:=Aj.o.2.1 1 _ rfl;have z2:=Aj.o.2.1 2 _ rfl;have zf:=Aj.o.2.2;go_wp2;refine cc_ results68 za_ underlying26 rfl k_ (cs:=[_,_,_]) (((Aj.o.set 0 _).set 1 _).set 2 _).whole rfl ?_;exact ⟨⟨none,0,0,0,0,1,rfl,q_ (slt_no _ _)⟩,zf_⟩
 case pos =>
 subst hr1;have p0:W1.cell? (a_ w)=some (.slice A n c):=(belc H1.o o_).trans (BD.o.2.1 0 _ rfl);obtain ⟨G0,g0,u0⟩:=GC.start W1 W1 n rfl A n c 191;obtain ⟨V,hV⟩:=ex_ (W1.alloc (.cells #[.slice A n c,.slice none 0 0,i_ 0,.slice none 0 0,.slice none 0 0,.slice none 0 0,.slice none 0 0,i_ 0,i_ 0,.slice none 0 0] 191));have AV:Below W1 W1 V:=by rw [hV];exact (b_).alloc (l_) _
 rw [<-hV] at g0 u0;have Ba:=q_ g0;have AK:=q_ (H1.o.trans (AV.mono H1.o.size));have Ch:(w:Nat)+1<W1:=lt_ C6 H1.o.size;have Bc:=h_ (PgT V G0 dp A n c) (PgT.go (G:=fun _=>False) ⟨(HP.o.sl.up (Kp.of_below (HW.o.trans (H1.o.mono HW.o.size))) (l_)).less2 (fun _ _ h=>h.elim),(HP.o.go (Up.of_below (HW.o.trans (H1.o.mono HW.o.size)))).nm⟩ u0);have p1:=(belc AV (show (w:Nat)<W1 by omega)).trans p0;have As:∀ k,G0 k->W1<=k:=fun k hk=>by
  rcases Nat.lt_or_ge k W1 with h2 | h2
  ·exact absurd hk (u0.no k h2 (fun h=>h))
  exact h2
 have AI:=q_ As;clear g0 u0 AV As;go_upto_region 5 with fail;rw [<-hV];clear hV p0;go_upto_region 6 with fail;clear p1;have KR:=h_ (∀ (w':World) (G':NP),Up V G0 w' G'->Bx w' (w+1) [.slice none 0 0,i_ 0,i_ 0]) (fun w' G' u=>((B8.o.below AK.o).kp u.kp (fun hx=>by have:=AI.o _ hx;omega)));have KB:=h_ (∀ (w':World) (G':NP),Up V G0 w' G'->Below w w w') (fun w' G' u=>(HW.o.trans (AK.o.mono HW.o.size)).trans (u.kp.below (by have:=HW.o.size;have:=AK.o.size;omega) (fun k hk hx=>by have:=AI.o _ hx;omega)));have AZ:∀ k:Nat,k<=3->k*(cl dp+10)<=3*(cl dp+10):=fun k hk=>Nat.mul_le_mul_right _ hk
 go_loopw [25] (fun i wr=>∃ (k:Nat) (G':NP) (qs':List Nat) (N':Nat) (pv':Nat->Value),k<=n/\i=i_ k/\Hid (GC W1 n pv' qs' N' N' 0 G' wr)/\Hid (Up V G0 wr G')/\N'<=k*(cl dp+10)/\Hid (pv' 0=.slice A n c/\pv' 3=i_ (k:Nat)/\pv' 4=i_ (k:Nat))) (fun i _=>n - (intOf i).toNat)
 case atStart=>exact ⟨0,G0,[],0,_,o_,rfl,Ba,q_ (Up.refl _ _),Nat.zero_le _,q_ ⟨rfl,rfl,rfl⟩⟩
 obtain ⟨k,G1,A8,N1,Ag,Cr,rfl,A0,U1,C2,Ad⟩:=hrel;have Cq:=AZ k o_;by_cases hlt:k<n
 ·have B6:(k:Int)<(n:Int):=by omega
  have Br:(k+1)*(cl dp+10)=k*(cl dp+10)+(cl dp+10):=Nat.succ_mul _ _;have BK:=q_ (Bc.o.go U1.o);obtain ⟨s,P,np,cp,B,nb,cb,g,o,BY,hs,hP,hB,Co⟩:=BK.o.sl.fn hlt;obtain ⟨rfl,Bq,k0,k1,k2⟩:=BY;obtain ⟨V1,Bk,A7,AU,B1⟩:=af_ wr [.string s,.slice P np cp,.slice B nb cb] 194;have Ar:¬G1 wr:=fun hx=>Nat.lt_irrefl _ (A0.o.lt _ hx)
  have HA:=q_ (A0.o.below A7);have UA:=q_ (U1.o.trans (Up.of_below (Y:=G1) A7));have BJ:=q_ (hP.up (Kp.of_below A7) (l_));have B9:=q_ (hB.below A7);have KF:=h_ (∀ (w':World) (G':NP),Up V1 G1 w' G'->w'.cell? (f_ wr 2)=some (.slice B nb cb)) (fun w' G' u=>(u.kp.cell o_ Ar).trans (B1.2.1 2 _ rfl));have f0:=B1.2.1 0 _ rfl;have f1:=B1.2.1 1 _ rfl;have f2:=B1.2.1 2 _ rfl;have Cw:(wr:Nat)<V1:=by omega
  clear A7 AU B1 hP hB Ar;go_upto_region 8 with fail;rw [<-Bk];clear Bk k0 k1 k2;go_wp2_with fail;refine (Vars_t G1 900000000 (l_) dp s P np cp B nb cb V1 BJ.o B9.o BW).mono ?_;rintro e W2 ⟨⟨VA,nv,cv,rfl,hR⟩,Az⟩;have H2:=q_ (HA.o.below Az);have U2:=q_ (UA.o.trans (Up.of_below (Y:=G1) Az));have UF:=q_ (Up.of_below (Y:=G1) Az);have BN:=h_ (SlT W2 G1 900000000 [.txt] VA nv cv) (hR.o.less2 (fun q _ hq=>HA.o.lt q hq));clear Az hR f0 f1 f2;obtain ⟨v6,y6,_⟩:=H2.o.cell (j:=6) rfl rfl;obtain ⟨v7,y7,_⟩:=H2.o.cell (j:=7) rfl rfl;obtain ⟨v8,y8,_⟩:=H2.o.cell (j:=8) rfl rfl;have fz:=fun j=>H2.o.fz j
  obtain ⟨g6,u6,_⟩:=H2.o.set (j:=6) (v:=.slice VA nv cv) rfl rfl BN.o.vt;obtain ⟨g7,u7,_⟩:=g6.set (j:=7) (v:=i_ 0) rfl rfl (.num _);obtain ⟨g8,u8,_⟩:=g7.set (j:=8) (v:=i_ 0) rfl rfl (.num _);obtain ⟨W3,AX⟩:=ex_ (((W2.setCell (f_ W1 6) (.slice VA nv cv)).setCell (f_ W1 7) (i_ 0)).setCell (f_ W1 8) (i_ 0));rw [<-AX] at g8 u8;have H3:=q_ g8;have U3:=q_ (U2.o.trans ((u6.trans u7).trans u8));have BQ:=q_ (UF.o.trans ((u6.trans u7).trans u8));clear g6 u6 g7 u7 g8 u8;go_upto_region 9 with fail;rw [<-AX];clear AX y6 y7 y8 fz;obtain ⟨⟨A3,c3,e3,x3,AC⟩,_⟩:=H3.o.len34;obtain rfl:e3=k:=by have:=Ad.o.2.1;rw [AC] at this;injection this with _ this;omega
  have Ay:=q_ x3;have Ck:(W1:Nat)<W3:=H3.o.blt;go_cut [] (fun wx=>∃ G',Hid (GC W1 n (upv Ag 3 (e3+1)) A8 (N1+1) (N1+1) 0 G' wx)/\Hid (Up W3 G1 wx G'))
  case first =>
   go_region_law (first
    | ((try go_simp);go_at_call 110;refine (mark_e W1 n Ag A8 N1 0 G1 W3 H3.o o_ A3 e3 c3 Ay.o).mono ?_;rintro e w1 ⟨rfl,G2,AE,BP,z3,lb,AB,Ai,BM⟩;have AN:=q_ AE.out.lt;have AL:=q_ z3;clear x3)
    | (refine cu_ rfl (.tmp 44) (.tmp 47) rfl ei_int v_ Ai.o v_ BM.o (fun k hk=>by have:=AN.o k hk;simp;omega) m_ o_ (Nat.zero_le _) ?_;intro A6 c6 w6 o6 g6 l6;have O6:=q_ o6;have G6:=q_ g6;have L6:=q_ l6;have Ah:=q_ ((AE.out.below ((b_).alloc (l_) _)).grown (j:=3) rfl rfl ((al_ _ _ _ _ lb).trans AL.o) g6);have t3:=(Ah.o.1 3 o_).trans ((al_ _ _ _ _ lb).trans AL.o);have ft:=Ah.o.2.1;clear o6 g6 l6))
   all_goals
    obtain ⟨G3,g3,u3,_⟩:=(AE.out.below (w':=w1.alloc (.cells #[i_ (N1:Int)] 3)) ((b_).alloc (l_) _)).grow34 (j:=3) (.inl rfl) ((al_ _ _ _ _ lb).trans AL.o) O6.o o_ G6.o L6.o;have g4:=q_ g3;have u4:=q_ (BP.out.trans ((Up.of_below ((Below.refl w1 w1).alloc (l_) (.cells #[i_ (N1:Int)] 3))).trans u3));clear g3 u3;go_wp2_with fail;go_meet;exact ⟨G3,g4,u4⟩
  case rest =>
  rename World=>W4
  obtain ⟨G4,H4,V4⟩:=hcut;have U4:=q_ (U3.o.trans V4.o);have Bd:=q_ (BQ.o.trans V4.o);clear x3;have z2:=KF.o W4 G4 Bd.o;have AJ:=q_ (Bc.o.go U4.o);have BE:=q_ (B9.o.go Bd.o (l_));go_wp2_with fail;refine (list_g W1 n (upv Ag 3 (e3+1)) _ c dp (by simp [upv];exact Ad.o.1) dp B nb cb W4 G4 o_ AJ.o BE.o W4 G4 A8 (N1+1) 0 H4.o (Up.refl _ _) o_ o_).mono ?_;rintro e W5 ⟨rfl,G5,B7,N5,H5,Cv,AB,Ct,V5⟩;have U5:=q_ (U4.o.trans V5.o);clear z2;go_wp2_with fail;refine (bv_ W1 n _ B7 N5 0 G5 W5 H5.o o_ _ _ _ _ _).mono ?_;rintro e W6 ⟨rfl,G6,H6,V6,_,_⟩;have U6:=q_ (U5.o.trans V6.o);go_wp2_with fail;refine (bv_ W1 n _ B7 (N5+1) 0 G6 W6 H6.o o_ _ _ _ _ _).mono ?_;rintro e W7 ⟨rfl,G7,H7,V7,_,_⟩;have U7:=q_ (U6.o.trans V7.o);obtain ⟨_,A4,c4,e4,x4,Ac⟩:=H7.o.len34;obtain rfl:e4=e3:=by have:=Ad.o.2.2;simp [upv] at Ac;rw [this] at Ac;injection Ac with _ Ac;omega
  obtain ⟨v6,x6,Bu⟩:=H7.o.cell (j:=6) rfl rfl;obtain ⟨Cb,Cy,Cg,rfl,_⟩:=Bu.slice;obtain ⟨v8,x8,Bv⟩:=H7.o.cell (j:=8) rfl rfl;obtain ⟨m8,rfl⟩:=Bv.int;have A9:=q_ x4;have AY:(W1:Nat)<W7:=H7.o.blt;have HY:=h_ (∀ (x:Int),SlT (W7.drew.alloc (.cells #[i_ x] 3)) (Wi G7 (Value.slice A4 e4 c4).ownBlock) (N5+3) [.num] (some (a_ W7.drew)) 1 1) (fun x=>lit_num _ (fun hx=>by
   obtain ⟨A',n',c',hc,_,_,hG,_⟩:=H7.o.own (j:=4) rfl rfl
   rw [A9.o] at hc
   injection hc with hc
   injection hc with q1 q2 q3
   subst q1 q2 q3
   rcases hx with hx | hx
   ·exact Nat.lt_irrefl _ (H7.o.lt _ hx)
   exact Nat.lt_irrefl _ (H7.o.lt _ (hG _ hx))) o_)
  have BI:=h_ (∀ (x:Int),OwT (W7.drew.alloc (.cells #[i_ x] 3)) 0 3 [.num] G7 (N5+3) A4 e4 c4) (fun x=>by
   obtain ⟨A',n',c',hc,_,hO,_⟩:=H7.o.own (j:=4) rfl rfl
   rw [A9.o] at hc
   injection hc with hc
   injection hc with q1 q2 q3
   subst q1 q2 q3
   exact hO.below ((Below.drew (b_)).alloc (l_) _))
  have Ax:=h_ (∀ (x:Int),Below W7 W7 (W7.drew.alloc (.cells #[i_ x] 3))) (fun x=>(Below.drew (b_)).alloc (l_) _);have AN:=q_ H7.o.lt;have AH:=h_ (∀ (x:Int),(W7.drew.alloc (.cells #[i_ x] 3)).cell? (f_ W1 4)=some (.slice A4 e4 c4)) (fun x=>(belc (Ax.o x) AY).trans A9.o);clear Bu Bv;go_upto_region 13 with fail;go_region_law (refine cu_ rfl (.tmp 63) (.tmp 74) rfl ei_int v_ (BI.o _) v_ (HY.o _) (fun k hk=>by have:=AN.o k hk;simp;omega) m_ o_ (Nat.zero_le _) ?_;intro A6 c6 w6 o6 g6 l6;have O6:=q_ o6;have BC:=q_ g6;have L6:=q_ l6;have Ah:=q_ ((H7.o.below (Ax.o _)).grown (j:=4) rfl rfl (AH.o _) g6);have t4:=(Ah.o.1 4 o_).trans (AH.o _);have ft:=Ah.o.2.1;clear o6 g6 l6);all_goals
   obtain ⟨G8,g8,u8,_⟩:=(H7.o.below (Ax.o _)).grow34 (j:=4) (.inr rfl) (AH.o _) O6.o o_ BC.out L6.o;have H8:=q_ g8;have U8:=q_ (U7.o.trans ((Up.of_below (Ax.o _)).trans u8));clear g8 u8;go_wp2_with fail;go_roundw
   case rel=>exact ⟨e4+1,G8,B7,N5+1+1,_,o_,zb_,H8,U8,o_,q_ ⟨by simp [upv];exact Ad.o.1,by simp [upv],by simp [upv]⟩⟩
   case measure=>exact me_
 have B6:¬(k:Int)<(n:Int):=by omega
 obtain rfl:n=k:=by omega
 obtain ⟨A5,n5,c5,x5,AB,Bj,AQ,_⟩:=A0.o.own (j:=5) rfl rfl;obtain ⟨A3,n3,c3,x3,_,AS,_,_⟩:=A0.o.own (j:=3) rfl rfl;obtain ⟨A4,n4,c4,x4,_,AT,_,_⟩:=A0.o.own (j:=4) rfl rfl;obtain ⟨A1,n1,c1,x1,_,Bi,_,Bs,_⟩:=A0.o.own (j:=1) rfl rfl;obtain rfl:n1=N1:=Bs rfl;obtain ⟨⟨C9,Ce,e3,Av,AC⟩,Ca,Cf,e4,Aw,Ac⟩:=A0.o.len34;have h3:n3=n:=by
  rw [x3] at Av;injection Av with Av;injection Av with _ q2 _;have:=Ad.o.2.1;rw [AC] at this;injection this with _ this;omega
 have h4:n4=n:=by
  rw [x4] at Aw;injection Aw with Aw;injection Aw with _ q2 _;have:=Ad.o.2.2;rw [Ac] at this;injection this with _ this;omega
 subst h3;subst h4;obtain ⟨g3,rfl,Bo⟩:=own_some AS o_;obtain ⟨g4,rfl,B3⟩:=own_some AT o_;have Aa:=q_ x1;have Ay:=q_ x3;have A9:=q_ x4;have BO:=q_ x5;have BG:=q_ Bi;have BH:=q_ AS;have Bb:=q_ AT;have Ai:=q_ Bj;have BF:=q_ AB;clear Av Aw AC Ac Bs Bi AS AT Bj AQ x1 x3 x4 AB;have C5:n5<=10000000000:=by have:n5<=n1+1:=BF.o;omega
 go_upto_region 16 with fail;clear x5;go_loopw [84] (fun i wz=>∃ j:Nat,j<=n5/\i=i_ j/\Hid (GC W1 n4 Ag A8 n1 n1 0 G1 wz)/\Hid (Up wr G1 wz G1)/\Hid (KpC W1 A8 10 wr wz)/\Hid (Kp (ownX A1 n1 c1) wr wz)) (fun i _=>n5 - (intOf i).toNat)
 case atStart=>exact ⟨0,o_,rfl,A0,q_ (Up.refl _ _),q_ ⟨fun _ _=>rfl,fun _ _ _=>rfl⟩,q_ (Kp.refl _ _)⟩
 rename World=>wz
 obtain ⟨j,Cp,rfl,HZ,UZ,KZ,PZ⟩:=hrel;by_cases hlj:j<n5
 ·have B5:(j:Int)<(n5:Int):=by omega
  obtain ⟨g5,rfl,Bp⟩:=own_some Ai.o o_;obtain ⟨ua,ca,Bw⟩:=own_el Ai.o j 0 hlj rfl;obtain ⟨a,rfl,ha⟩:=Bw.sat_of;obtain ⟨uf,cf,Bz⟩:=own_el Ai.o j 1 hlj rfl;obtain ⟨fi,rfl,Bn⟩:=Bz.sat_of;obtain ⟨gl,rfl,Bq⟩:=own_some BG.o o_;have Aq:gl≠g5:=fun e=>A0.o.far2 (i:=5) (j:=1) o_ yf_ yf_ o_ o_ BO.o Aa.o rfl (by rw [e];rfl)
  have An:gl≠g3:=fun e=>A0.o.far2 (i:=3) (j:=1) o_ yf_ yf_ o_ o_ Ay.o Aa.o rfl (by rw [e];rfl)
  have Ao:gl≠g4:=fun e=>A0.o.far2 (i:=4) (j:=1) o_ yf_ yf_ o_ o_ A9.o Aa.o rfl (by rw [e];rfl)
  have Af:∀ q,ownX (some (a_ gl)) n1 c1 q->q=gl:=fun q hq=>by injection hq with hq;exact hq.symm
  have ya:wz.cell? ⟨g5,j*2,none⟩=some (i_ (a:Int)):=(PZ.o.cell Bp (fun hx=>Aq (Af _ hx).symm)).trans ca;have yf:wz.cell? ⟨g5,j*2+1,none⟩=some (i_ (fi:Int)):=(PZ.o.cell Bp (fun hx=>Aq (Af _ hx).symm)).trans cf;obtain ⟨ue,Bg,By⟩:=own_el BH.o fi 0 Bn rfl;obtain ⟨en,rfl⟩:=By.int;obtain ⟨uq,Ak,Au⟩:=own_el Bb.o fi 0 Bn rfl;obtain ⟨fn,rfl⟩:=Au.int;have Be:wr.cell? (f_ g3 fi)=some (i_ en):=by simpa using Bg
  have Bf:wr.cell? (f_ g4 fi)=some (i_ fn):=by simpa using Ak
  obtain ⟨Vx,Bl,A2,AW,BX⟩:=af_ wz [i_ (a:Int),i_ (fi:Int)] 200;have AM:=q_ (HZ.o.below A2);have PV:=h_ (Kp (ownX (some (a_ gl)) n1 c1) wr Vx) (PZ.o.bb_ A2);have UV:=q_ (UZ.o.trans (Up.of_below (Y:=G1) A2));have KV:=h_ (KpC W1 A8 10 wr Vx) (⟨fun q hq=>(belc A2 (by obtain ⟨_,_,_,_,_,_,_,_,BR,_⟩:=HZ.o.at_own hq;exact HZ.o.lt _ BR)).trans (KZ.o.1 q hq),fun i hi Al=>(belc A2 HZ.o.blt).trans (KZ.o.2 i hi Al)⟩);have Cs:gl<wz:=lt_ Bq PZ.o.size;have C7:(wz:Nat)<Vx:=by omega
  have KS:=h_ (∀ w':World,Kp (fun q=>q=gl) Vx w'->(w'.cell? (a_ wz)=some (i_ (a:Int))/\w'.cell? (f_ wz 1)=some (i_ (fi:Int))/\w'.cell? (f_ W1 1)=some (.slice (some (a_ gl)) n1 c1)/\w'.cell? (f_ W1 3)=some (.slice (some (a_ g3)) n4 c3)/\w'.cell? (f_ W1 4)=some (.slice (some (a_ g4)) n4 c4)/\w'.cell? (f_ g3 fi)=some (i_ en)/\w'.cell? (f_ g4 fi)=some (i_ fn))) (fun w' kp=>by
   have BT:W1≠gl:=fun e=>(A0.o.notb (j:=1) rfl rfl Aa.o rfl).1 e.symm
   have BU:(W1:Nat)<Vx:=AM.o.blt
   have cb:=fun i=>kp.cell (b:=W1) (o:=i) BU (fun e=>BT e)
   have cx:=fun i=>kp.cell (b:=wz) (o:=i) C7 (fun e=>o_)
   have B2:g3<Vx:=lt_ Bo PV.o.size
   have B4:g4<Vx:=lt_ B3 PV.o.size
   exact ⟨(cx 0).trans (BX.2.1 0 _ rfl),(cx 1).trans (BX.2.1 1 _ rfl),(cb 1).trans ((KV.o.2 1 o_ o_).trans Aa.o),(cb 3).trans ((KV.o.2 3 o_ o_).trans Ay.o),(cb 4).trans ((KV.o.2 4 o_ o_).trans A9.o),(kp.cell B2 (fun e=>An e.symm)).trans ((PV.o.cell Bo (fun hx=>An (Af _ hx).symm)).trans Be),(kp.cell B4 (fun e=>Ao e.symm)).trans ((PV.o.cell B3 (fun hx=>Ao (Af _ hx).symm)).trans Bf)⟩)
  have Cc:=q_ Af;have Cj:(a:Int)<(n1:Int):=by omega
  have Ci:¬(a:Int)<0:=by omega
  have Cn:(fi:Int)<(n4:Int):=by omega
  have Cm:¬(fi:Int)<0:=by omega
  clear A2 AW BX ca cf Bg Ak Be Bf Bw Bz By Au Af;go_upto_region 18 with fail;rw [<-Bl];clear Bl ya yf;obtain ⟨s0,s1,b1,b3,b4,q3,q4⟩:=KS.o Vx (Kp.refl _ _);have LC:=h_ (∀ (w':World),GC W1 n4 Ag A8 n1 n1 0 G1 w'->w'.cell? (f_ W1 1)=some (.slice (some (a_ gl)) n1 c1)->(∀ jj,jj<5->∃ u,w'.cell? ⟨gl,a*5+jj,none⟩=some u)/\∀ q,w'.frozen? (f_ gl q)=false) (fun w' hg hc=>by
   obtain ⟨A',n',c',AA,_,Ae,_,Cu,_⟩:=hg.own (j:=1) rfl rfl
   rw [hc] at AA
   injection AA with AA
   injection AA with q1 q2 q3
   subst q1 q2 q3
   refine ⟨fun jj C1=>?_,(dv_ Ae a 0 (t:=.num) ha rfl).2⟩
   match jj,C1 with
   | 0,_=>exact (dv_ Ae a 0 (t:=.num) ha rfl).1
   | 1,_=>exact (dv_ Ae a 1 (t:=.num) ha rfl).1
   | 2,_=>exact (dv_ Ae a 2 (t:=.num) ha rfl).1
   | 3,_=>exact (dv_ Ae a 3 (t:=.num) ha rfl).1
   | 4,_=>exact (dv_ Ae a 4 (t:=.num) ha rfl).1)
  have AF:=q_ b1;obtain ⟨Am,fl⟩:=LC.o Vx AM.o b1;obtain ⟨u4,y4⟩:=Am 4 o_;clear Am;go_cut [] (fun wx=>Hid (GC W1 n4 Ag A8 n1 n1 0 G1 wx)/\Hid (Up Vx G1 wx G1)/\Hid (KpC W1 A8 10 Vx wx)/\Hid (Kp (fun q=>q=gl) Vx wx))
  case first =>
   refine aq_ (S:=fun w':World=>w'.cell? (a_ wz)=some (i_ (a:Int))/\w'.cell? (f_ wz 1)=some (i_ (fi:Int))/\w'.cell? (f_ W1 1)=some (.slice (some (a_ gl)) n1 c1)/\w'.cell? (f_ W1 3)=some (.slice (some (a_ g3)) n4 c3)/\w'.cell? (f_ W1 4)=some (.slice (some (a_ g4)) n4 c4)/\w'.cell? (f_ g3 fi)=some (i_ en)/\w'.cell? (f_ g4 fi)=some (i_ fn)) rfl (KS.o _ ((Kp.refl (fun q=>q=gl) Vx).drew)) (fun _=>?_);go_simp;clear s0 s1 b1 b3 b4 q3 q4;refine aa_ 0 88 ?_;refine aa_ 1 89 ?_;refine aa_ 2 90 ?_;refine aa_ 3 91 ?_;refine aa_ 4 92 ?_;refine aa_ 5 93 ?_;refine aa_ 6 94 ?_;refine aa_ 7 95 ?_;refine aa_ 8 96 ?_;refine aa_ 9 97 ?_;refine aa_ 10 98 ?_;refine aa_ 11 99 ?_;refine aa_ 12 100 ?_;refine aa_ 13 101 ?_;refine aa_ 14 102 ?_;refine aa_ 15 103 ?_;refine ba_ 16 k_ rfl (fun K hK=>?_);go_simp;refine hK.out _ _ (KS.o _ (((Kp.refl (fun q=>q=gl) Vx).drew).setCell (p:=⟨gl,a*5+4,none⟩) (.inl rfl) _)) (fun _=>?_);try simp only [Act.put,sA,s0,s1]
   refine wpAnyH_done k_ ?_ _;obtain ⟨g2,u2,k2⟩:=(AM.o.below (w':=Vx.drew) (Below.drew (b_))).patch (g:=gl) (c:=c1) (k:=a) (q:=4) (n:=en) AF.out ha o_ ⟨gl,a*5+4,none⟩ rfl;have H2:=q_ g2;have U2:=q_ ((Up.of_below (Below.drew (Below.refl Vx Vx))).trans u2);have K2:=h_ (KpC W1 A8 10 Vx _) k2;clear g2 u2 k2;go_wp2_with fail;go_meet;exact ⟨H2,U2,K2,q_ (((Kp.refl (fun q=>q=gl) Vx).drew).setCell (p:=⟨gl,a*5+4,none⟩) (.inl rfl) _)⟩
  rename World=>wx
  obtain ⟨H2,U2,K2,P2⟩:=hcut;clear s0 s1 b1 b3 b4 q3 q4 y4 fl;obtain ⟨s0,s1,b1,b3,b4,q3,q4⟩:=KS.o wx P2.o;obtain ⟨Am,fl⟩:=LC.o wx H2.o b1;have AG:=q_ b1;obtain ⟨u3,y3⟩:=Am 3 o_;clear Am;go_upto_region 19 with fail;refine aq_ (S:=fun w':World=>w'.cell? (a_ wz)=some (i_ (a:Int))/\w'.cell? (f_ wz 1)=some (i_ (fi:Int))/\w'.cell? (f_ W1 1)=some (.slice (some (a_ gl)) n1 c1)/\w'.cell? (f_ W1 3)=some (.slice (some (a_ g3)) n4 c3)/\w'.cell? (f_ W1 4)=some (.slice (some (a_ g4)) n4 c4)/\w'.cell? (f_ g3 fi)=some (i_ en)/\w'.cell? (f_ g4 fi)=some (i_ fn)) rfl (KS.o _ (P2.o.drew)) (fun _=>?_);go_simp;clear s0 s1 b1 b3 b4 q3 q4;refine aa_ 0 104 ?_;refine aa_ 1 105 ?_;refine aa_ 2 106 ?_;refine aa_ 3 107 ?_;refine aa_ 4 108 ?_;refine aa_ 5 109 ?_;refine aa_ 6 110 ?_;refine aa_ 7 111 ?_;refine aa_ 8 112 ?_;refine aa_ 9 113 ?_;refine aa_ 10 114 ?_;refine aa_ 11 115 ?_;refine aa_ 12 116 ?_;refine aa_ 13 117 ?_;refine aa_ 14 118 ?_;refine aa_ 15 119 ?_;refine ba_ 16 k_ rfl (fun K hK=>?_);go_simp;refine hK.out _ _ (KS.o _ ((P2.o.drew).setCell (p:=⟨gl,a*5+3,none⟩) (.inl rfl) _)) (fun _=>?_);try simp only [Act.put,sA,s0,s1]
  refine wpAnyH_done k_ ?_ _;obtain ⟨Bh,BB,BA⟩:=(H2.o.below (w':=wx.drew) (Below.drew (b_))).patch (g:=gl) (c:=c1) (k:=a) (q:=3) (n:=fn) AG.out ha o_ ⟨gl,a*5+3,none⟩ rfl;have H3:=q_ Bh;have U3:=q_ (UV.o.trans (U2.o.trans ((Up.of_below (Below.drew (Below.refl wx wx))).trans BB)));have K3:=h_ (KpC W1 A8 10 wx _) BA;have P3:=q_ (((P2.o.drew).setCell (p:=⟨gl,a*5+3,none⟩) (.inl rfl) (i_ fn)));clear Bh BB BA;go_wp2_with fail;go_roundw
  case rel=>exact ⟨j+1,o_,zb_,H3,U3,q_ ⟨fun q hq=>(K3.o.1 q hq).trans ((K2.o.1 q hq).trans (KV.o.1 q hq)),fun i hi Al=>(K3.o.2 i hi Al).trans ((K2.o.2 i hi Al).trans (KV.o.2 i hi Al))⟩,q_ (PV.o.trans (P3.o.mono (fun q _ hq=>by subst hq;rfl)))⟩
  case measure=>exact me_
 have B5:¬(j:Int)<(n5:Int):=by omega
 have z1:wz.cell? (f_ W1 1)=some (.slice A1 n1 c1):=(KZ.o.2 1 o_ o_).trans Aa.o;have UT:=q_ (U1.o.trans UZ.o);have HR:=q_ (KR.o wz G1 UT.o);have z0:=HR.o.2.1 0 _ rfl;have CB:=HR.o.2.1 1 _ rfl;have CC:=HR.o.2.1 2 _ rfl;have zf:=HR.o.2.2;have Ab:(2048:Int)<(n1:Int)\/¬(2048:Int)<(n1:Int):=by omega
 rcases Ab with Ab | Ab
 ·go_wp2;refine cc_ results68 za_ underlying26 rfl k_ (cs:=[_,_,_]) (((HR.o.set 0 _).set 1 _).set 2 _).whole rfl ?_;exact ⟨⟨none,0,0,0,0,3,rfl,q_ (slt_no _ _)⟩,(bel (KB.o _ _ UT.o))⟩
 obtain ⟨C8,Cx,Cd,AD,_,AR,AP,_⟩:=HZ.o.own (j:=1) rfl rfl;rw [z1] at AD;injection AD with AD;injection AD with q1 q2 q3;subst q1 q2 q3;have HS:=h_ (SlT wz (fun q=>X q\/q=w+1) 2048 aw_ A1 n1 c1) ((OwT.ins_any (Y:=fun q=>X q\/q=w+1) AR).mono (Nat.zero_le _) (l_) |> fun h=>(h.base_up (base':=W1) (fun g hg=>by
  have BZ:=AP g hg
  rcases Nat.lt_or_ge g W1 with h2 | h2
  ·exfalso
   have C0:g<V:=lt_ h2 (by have:=Ba.o.blt;omega)
   exact UT.o.no g C0 (fun h=>by have:=AI.o g h;omega) BZ
  exact h2)) |> fun h=>(slt_k (h.slT (fun q hq=>by rcases hq with hq | hq;(have:=hX q hq;omega);omega) (show n1<=n1+1 by omega)) o_))
 have z4:wz.cell? (f_ W1 4)=some (.slice (some (a_ g4)) n4 c4):=(KZ.o.2 4 o_ o_).trans A9.o;obtain ⟨v2,z2,Bt⟩:=HZ.o.cell (j:=2) rfl rfl;obtain ⟨m2,rfl⟩:=Bt.int;obtain ⟨uq,Ak,Au⟩:=own_el Bb.o 0 0 o_ rfl;obtain ⟨fn,rfl⟩:=Au.int;have Ap:¬ownX A1 n1 c1 g4:=fun e=>A0.o.far2 (i:=4) (j:=1) o_ yf_ yf_ o_ o_ A9.o Aa.o rfl e
 have q4:wz.cell? (a_ g4)=some (i_ fn):=(PZ.o.cell B3 Ap).trans (by simpa using Ak);have BL:=q_ (HR.o.drew);have C3:(0:Int)<(n4:Int):=by omega
 have C4:0<n4:=by omega
 clear Bt Ak Au Ap;go_upto_region 23 with fail;go_region_law fail;all_goals
  go_wp2_with fail;refine cc_ results68 za_ underlying26 rfl k_ (cs:=[_,_,_]) (((BL.o.set 0 _).set 1 _).set 2 _).whole rfl ?_;exact ⟨⟨_,_,_,_,_,_,rfl,q_ ((HS.o.up (((((Kp.refl _ wz).drew).setCell (p:=(a_ (w+1))) (.inl (.inr rfl)) _).setCell (p:=(f_ (w+1) 1)) (.inl (.inr rfl)) _).setCell (p:=(f_ (w+1) 2)) (.inl (.inr rfl)) _) (l_)).less2 (fun q _ hq=>.inl hq))⟩,(bel (KB.o _ _ UT.o))⟩
end Go.Proofs.YtfolidlmgfhkiaaGreat
