/- Lemmas on functions of the program, under the conditions that each states. -/
import Derived.Test.YtfolidlmgfhkiaaGreatV22
set_option linter.unusedVariables false
set_option linter.unusedSimpArgs false
set_option maxRecDepth 100000
set_option maxHeartbeats 16000000
namespace Go.Proofs.YtfolidlmgfhkiaaGreat
open Go.RowKit Go.Proofs.Tryz
theorem ExC.go {b F o cst:Nat} {pv:Nat->Value} {w w':World} {G G':NP} {v:Value} (h:ExC b F pv o cst w G v) (u:Up w G w' G'):ExC b F pv o cst w' G' v:=fun w2 G2 qs N r hg u2=>h w2 G2 qs N r hg (u.trans u2)
theorem LsC.low {b F cst om om' nb cb:Nat} {pv:Nat->Value} {w:World} {G:NP} {B:OA} (h:LsC b F pv cst w G om B nb cb) (ho:om'<=om):LsC b F pv cst w G om' B nb cb:=fun w2 G2 qs N o hg u2 hN A0=>h w2 G2 qs N o hg u2 hN o_
theorem ei_patch (N F:Nat):EI prog 187 200 [.sat (idxP N),.sat (idxP F)] 16:=EI.of (z:=.agg #[i_ 0,i_ 0]) underlying187 k_ rfl t_
theorem lit_patch {N F:Nat} {w:World} {Y:NP} (i r:Nat) (hi:i<N) (hr:r<F) (h:¬Y w):SlT (w.alloc (.cells #[i_ (i:Int),i_ (r:Int)] 200)) Y (N+1) [.sat (idxP N),.sat (idxP F)] (some (a_ w)) 1 1 :=
 SlT.lit1 (VTs.cons (.sat _ _ rfl ⟨i,rfl,hi⟩) (VTs.cons (.sat _ _ rfl ⟨r,rfl,hr⟩) VTs.nil)) 200 h o_
theorem put_calls (b F:Nat) (pv:Nat->Value) (qs:List Nat) (N o:Nat) (G:NP) (w:World) (h:GC b F pv qs N N o G w) (hN:N<=10000000000) (A:OA) (n c r:Nat) (hr:r<F) (x5:w.cell? (f_ b 5)=some (.slice A n c)) (x0 x1 x2 x3 x4:Int) :
  Calls prog 112 #[.pointer (some (a_ b)),i_ x0,i_ x1,i_ x2,i_ x3,i_ x4] w.drew fun e w1=>e=.returned (i_ (N:Int))/\∃ G2,Hid (GC b F pv qs (N+1) (N+1) o G2 w1)/\Hid (Up w G w1 G2)/\w1.cell? (f_ b 5)=some (.slice A n c)/\b<w1/\n<=N+1/\Hid (OwT (w1.alloc (.cells #[i_ (N:Int),i_ (r:Int)] 200)) 0 200 [.sat (idxP (N+1)),.sat (idxP F)] G2 (N+2) A n c)/\Hid (SlT (w1.alloc (.cells #[i_ (N:Int),i_ (r:Int)] 200)) (Wi G2 (Value.slice A n c).ownBlock) (N+2) [.sat (idxP (N+1)),.sat (idxP F)] (some (a_ w1)) 1 1):=by
 have hd:GC b F pv qs N N o G w.drew:=h.below (Below.drew (b_));have A0:n<=N+1:=by
  obtain ⟨A',n',c',hc,hn,_⟩:=h.own (j:=5) rfl rfl;rw [x5] at hc;injection hc with hc;injection hc with q1 q2 q3;subst q2;exact hn
 refine (bv_ b F pv qs N o G w.drew hd hN x0 x1 x2 x3 x4).mono ?_;rintro e w1 ⟨rfl,G2,H2,U2,K2,P2⟩;have y5:w1.cell? (f_ b 5)=some (.slice A n c):=(K2.o.2 5 o_ o_).trans x5;obtain ⟨A',n',c',hc,hn,hO,hG,_⟩:=H2.o.own (j:=5) rfl rfl;rw [y5] at hc;injection hc with hc;injection hc with q1 q2 q3;subst q1 q2 q3;exact ⟨rfl,G2,H2,q_ ((Up.of_below (Below.drew (b_))).trans U2.o),y5,H2.o.blt,A0,q_ (hO.below ((b_).alloc (l_) _)),q_ (lit_patch (N:=N+1) N r o_ hr (fun hx=>by
  rcases hx with hx | hx
  ·exact Nat.lt_irrefl _ (H2.o.lt _ hx)
  exact Nat.lt_irrefl _ (H2.o.lt _ (hG _ hx))))⟩
theorem stmt_step (b F:Nat) (pv:Nat->Value) (PA:OA) (pn pc dp:Nat) (hpv:pv 0=.slice PA pn pc) (o cb:Nat) (qs:List Nat) (N:Nat) (G:NP) (w:World) (h:GC b F pv qs N N o G w) (kd:Int) (s f:ByteArray) (n op:Int) (E B C:OA) (m c m1 c1 m2 c2:Nat) (ho:o<=900) (hN:N+(800+2*cb)<=10000000000) (hm:m<=20) (hF:F=pn)
  (h5:kd=5->2<=m) (h6:kd=6->1<=m) (h3:kd=3->f=nameF\/f=nameG) (hp:SlT w G 20 (cx_ dp) PA pn pc) (hnm:∀ s,s=nameF\/s=nameG->∃ q,q<pn/\nameAt w PA q s)
  (hk:∀ k,k<m->∃ (kd' n':Int) (s':ByteArray) (op':Int) (A':OA) (m' c' g o':Nat),ExE w E k kd' n' s' op' A' m' c' g o'/\¬G g/\ExC b F pv o 31 w G (.agg #[i_ kd',i_ n',.string s',i_ op',.slice A' m' c'])) (hb:LsC b F pv cb w G (o+1) B m1 c1) (hc:LsC b F pv cb w G (o+1) C m2 c2) :
  Calls prog 165 #[.pointer (some (a_ b)),.agg #[i_ kd,.string s,.string f,i_ n,i_ op,.slice E m c,.slice B m1 c1,.slice C m2 c2]] w fun e w'=>e=.returned (.tuple #[])/\RG b F pv qs N o G w (800+2*cb) w':=by
 obtain ⟨W,hW,Ab,AA,B0⟩:=af_ w [i_ kd,.string s,.string f,i_ n,i_ op,.slice E m c,.slice B m1 c1,.slice C m2 c2] 212;have HU:=h_ (Up w G W G) (Up.of_below Ab);have H:=q_ (h.below Ab);have Ah:¬G w:=fun hx=>Nat.lt_irrefl _ (h.lt _ hx)
 have KC:=q_ (stb_up (w:=w) (W:=W) (G:=G) B0 o_ Ah);have HB:=q_ hb;have HC:=q_ hc;have HK:=q_ hk;have HP:=q_ hp;have Ao:=q_ hnm;have Ar:=q_ hpv;have HF:=q_ hF;obtain ⟨x0,x1,x2,x3,x4,x5,x6,x7⟩:=KC.o W G (Up.refl _ _);clear B0 Ab AA h hk Ah hb hc hp hnm hpv hF;go_enter func165,ntmps165;go_upto_region 1 with fail;rw [<-hW];clear hW;by_cases h9:kd=9
 ·subst h9;go_wp2_with fail;refine (try_g b F pv o cb qs N G W H.o s f 9 n op E B C m c m1 c1 m2 c2 ho o_ (HB.o.go HU.o) (HC.o.go HU.o)).mono ?_;exact vt_
 by_cases h6':kd=6
 ·subst h6';have A8:=h6 rfl;have A4:=h_ (∀ k,k<m->∃ (kd' n':Int) (s':ByteArray) (op':Int) (A':OA) (m' c' g o':Nat),ExE W E k kd' n' s' op' A' m' c' g o'/\¬G g/\ExC b F pv o 31 W G (.agg #[i_ kd',i_ n',.string s',i_ op',.slice A' m' c'])) (fun k hk=>by
   obtain ⟨a1,a2,a3,a4,a5,a6,a7,g,o',e1,e2,e3⟩:=HK.o k hk
   exact ⟨a1,a2,a3,a4,a5,a6,a7,g,o',e1.up HU.o e2,e2,e3.go HU.o⟩)
  go_wp2_with fail;refine (loop6_g b F pv o cb qs N G W H.o s f n op E B C m c m1 c1 m2 c2 ho o_ A8 A4.o ((HB.o.go HU.o).low o_)).mono ?_;exact vt_
 by_cases h5':kd=5
 ·subst h5';have A8:=h5 rfl;have A4:=h_ (∀ k,k<m->∃ (kd' n':Int) (s':ByteArray) (op':Int) (A':OA) (m' c' g o':Nat),ExE W E k kd' n' s' op' A' m' c' g o'/\¬G g/\ExC b F pv o 31 W G (.agg #[i_ kd',i_ n',.string s',i_ op',.slice A' m' c'])) (fun k hk=>by
   obtain ⟨a1,a2,a3,a4,a5,a6,a7,g,o',e1,e2,e3⟩:=HK.o k hk
   exact ⟨a1,a2,a3,a4,a5,a6,a7,g,o',e1.up HU.o e2,e2,e3.go HU.o⟩)
  go_wp2_with fail;refine (loop5_g b F pv o cb qs N G W H.o s f n op E B C m c m1 c1 m2 c2 ho o_ A8 A4.o ((HB.o.go HU.o).low o_)).mono ?_;exact vt_
 go_upto_region 8 with fail;clear x0 x1 x2 x3 x4 x5 x6 x7 h9 h6' h5'
 rename (kd == 9)=false=>ha9
 rename (kd == 6)=false=>ha6
 rename (kd == 5)=false=>ha5
 clear ha9 ha6 ha5;go_loopw [27] (fun i wr=>∃ (k:Nat) (G':NP) (qs':List Nat) (N':Nat),k<=m/\i=i_ k/\Hid (GC b F pv qs' N' N' o G' wr)/\Hid (Up W G wr G')/\Hid (∀ q ∈ qs,q ∈ qs')/\N<=N'/\N'<=N+k*31) (fun i _=>m - (intOf i).toNat)
 case atStart=>exact ⟨0,G,qs,N,o_,rfl,H,q_ (Up.refl _ _),q_ (fun _ h=>h),l_,o_⟩
 obtain ⟨k,G0,A0,N0,AP,rfl,H0,U0,Q0,AU,AQ⟩:=hrel;by_cases hlt:k<m
 ·have Ac:(k:Int)<(m:Int):=by omega
  obtain ⟨kd',n',s',op',A',m',c',g,o',hE,hg,hC⟩:=HK.o k hlt;obtain ⟨rfl,AO,z0,z1,z2,z3,z4⟩:=hE.up (HU.o.trans U0.o) hg;have An:=q_ hC;have HA:=q_ (H0.o.below ((Below.refl wr wr).alloc (l_) (.cells #[i_ kd',i_ n',.string s',i_ op',.slice A' m' c'] 209)));have UA:=q_ (U0.o.trans (Up.of_below ((Below.refl wr wr).alloc (l_) (.cells #[i_ kd',i_ n',.string s',i_ op',.slice A' m' c'] 209))));clear hE hC;go_wp2_with fail;refine (An.o _ G0 A0 N0 _ HA.o (HU.o.trans UA.o) o_).mono ?_;rintro e W1 ⟨rfl,G1,AL,N1,H1,AE,AV,A8,V1⟩;clear z0 z1 z2 z3 z4;go_wp2;go_roundw
  case rel =>
   exact ⟨k+1,G1,AL,N1,o_,zb_,H1,q_ (UA.o.trans V1.o),q_ (fun q hq=>AE q (Q0.o q hq)),o_,o_⟩
  case measure=>exact me_
 have Ac:¬(k:Int)<(m:Int):=by omega
 obtain ⟨x0,x1,x2,x3,x4,x5,x6,x7⟩:=KC.o wr G0 U0.o;go_wp2_with fail;refine (ev_ b F pv A0 N0 o G0 wr H0.o _).mono ?_;rintro e W1 ⟨⟨r1,rfl⟩,A2⟩;have H1:=q_ (H0.o.below A2);have V1:=q_ (Up.of_below (Y:=G0) A2);clear A2;have U1:=q_ (U0.o.trans V1.o);clear x0 x1 x2 x3 x4 x5 x6 x7;obtain ⟨x0,x1,x2,x3,x4,x5,x6,x7⟩:=KC.o W1 G0 U1.o;by_cases A4:kd=1
 ·subst A4;exact va_
 by_cases hk2:kd=2
 ·subst hk2;exact va_
 by_cases hk12:kd=12
 ·subst hk12;exact va_
 by_cases hk3:kd=3
 ·subst hk3;obtain ⟨vp,xp,Aj⟩:=H1.o.cell (j:=0) rfl rfl;have A7:vp=pv 0:=Aj.sat_of;rw [A7,Ar.o] at xp;have As:=h_ (SlT W1.drew G0 20 (cx_ dp) PA pn pc) ((HP.o.go (HU.o.trans U1.o) (l_)).up (Kp.of_below (Below.drew (b_))) (l_));have Ap:=q_ (show ∃ q,q<pn/\nameAt W1.drew PA q f from by
   obtain ⟨q,hq,g',o',e1,e2⟩:=Ao.o f (h3 rfl)
   obtain ⟨fs,P,np,cp,FB,nb,AM,gf,B1,Ag,_,_,_,AB⟩:=HP.o.fn hq
   have e3:=Ag.hA
   rw [e1] at e3
   injection e3 with e3
   injection e3 with e4 e5
   subst e4 e5
   exact ⟨q,hq,g',o',e1,((HU.o.trans U1.o).kp.cell Ag.lt AB).trans e2⟩)
  clear Aj A7;go_upto_region 21 with fail;go_cut [7] (fun v wx=>∃ r:Nat,v=i_ r/\r<pn/\Hid (Below W1 W1 wx))
  case first =>
   go_region_law ((try go_simp);go_at_call 160;refine (Index_t G0 20 d_ dp PA pn pc f W1.drew As.o).mono ?_;rintro e w1 ⟨⟨r,rfl,hr,AJ⟩,A2⟩;have Am:=q_ A2;clear A2);all_goals
    obtain ⟨r',rfl,AI⟩:∃ r':Nat,r=r'/\r'<pn:=by
     rcases hr with hr | hr
     ·exact absurd hr (AJ.o Ap.o)
     exact hr
    go_wp2_with fail;go_meet;exact ⟨r',rfl,AI,q_ ((Below.drew (b_)).trans Am.o)⟩
  case rest =>
  rename World=>W2
  obtain ⟨r,rfl,AK,A3⟩:=hcut;have H2:=q_ (H1.o.below A3.o);have V2:=q_ (Up.of_below (Y:=G0) A3.o);clear xp;have U2:=q_ (U1.o.trans V2.o);clear x0 x1 x2 x3 x4 x5 x6 x7;obtain ⟨x0,x1,x2,x3,x4,x5,x6,x7⟩:=KC.o W2 G0 U2.o;obtain ⟨A5,n5,c5,y5,_⟩:=H2.o.own (j:=5) rfl rfl;have Av:=q_ y5;go_upto_region 22 with fail;go_cut [] (fun wx=>∃ G',Hid (GC b F pv A0 (N0+1) (N0+1) o G' wx)/\Hid (Up W2 G0 wx G'))
  case first =>
   go_region_law (first
    | ((try go_simp);go_at_call 112;refine (put_calls b F pv A0 N0 o G0 W2 H2.o o_ A5 n5 c5 r (by rw [HF.o];exact AK) Av.o _ _ _ _ _).mono ?_;rintro e w1 ⟨rfl,G2,H2,U2,z5,lb,AY,Aq,Au⟩;have Aw:=q_ H2.o.lt;have Aa:=q_ z5;clear y5)
    | (refine cu_ rfl (.tmp 74) (.tmp 82) rfl (ei_patch (N0+1) F) v_ Aq.o v_ Au.o (fun k hk=>by have:=Aw.o k hk;simp;omega) m_ o_ (Nat.zero_le _) ?_;intro A6 c6 w6 o6 g6 l6;have O6:=q_ o6;have G6:=q_ g6;have L6:=q_ l6;have Af:=q_ ((H2.o.below ((b_).alloc (l_) _)).grown (j:=5) rfl rfl ((al_ _ _ _ _ lb).trans Aa.o) g6);have t5:=(Af.o.1 5 o_).trans ((al_ _ _ _ _ lb).trans Aa.o);have ft:=Af.o.2.1;clear o6 g6 l6))
   all_goals
    obtain ⟨G3,g3,u3,_⟩:=(H2.o.below (w':=w1.alloc (.cells #[i_ ((N0:Nat):Int),i_ (r:Int)] 200)) ((b_).alloc (l_) _)).grow (j:=5) rfl rfl ((al_ _ _ _ _ lb).trans Aa.o) O6.o (show n5+1<=N0+1+1 by omega) G6.o L6.o;have g4:=h_ (GC b F pv A0 (N0+1) (N0+1) o G3 _) (by simpa using g3);have u4:=q_ (U2.o.trans ((Up.of_below ((Below.refl w1 w1).alloc (l_) (.cells #[i_ ((N0:Nat):Int),i_ (r:Int)] 200))).trans u3));clear g3 u3;go_wp2_with fail;go_meet;exact ⟨G3,g4,u4⟩
  case rest =>
  rename World=>W3
  obtain ⟨G3,H3,V3⟩:=hcut;clear y5;have U3:=q_ (U2.o.trans V3.o);clear x0 x1 x2 x3 x4 x5 x6 x7;obtain ⟨x0,x1,x2,x3,x4,x5,x6,x7⟩:=KC.o W3 G3 U3.o;go_wp2_with fail;refine (mark_g b F pv A0 (N0+1) o G3 W3 H3.o o_).mono ?_;rintro e W4 ⟨rfl,G4,A1,N4,H4,Ad,AD,AC,V4⟩;have U4:=q_ (U3.o.trans V4.o);clear x0 x1 x2 x3 x4 x5 x6 x7;have q4:∀ q ∈ qs,q ∈ A1:=fun q hq=>Ad q (Q0.o q hq)
  obtain ⟨x0,x1,x2,x3,x4,x5,x6,x7⟩:=KC.o W4 G4 U4.o;go_wp2_with fail;refine (bv_ b F pv A1 N4 o G4 W4 H4.o o_ _ _ _ _ _).mono ?_;rintro e W5 ⟨rfl,G5,H5,V5,_,_⟩;have U5:=q_ (U4.o.trans V5.o);clear x0 x1 x2 x3 x4 x5 x6 x7;obtain ⟨x0,x1,x2,x3,x4,x5,x6,x7⟩:=KC.o W5 G5 U5.o;go_wp2_with fail;refine (bv_ b F pv A1 (N4+1) o G5 W5 H5.o o_ _ _ _ _ _).mono ?_;rintro e W6 ⟨rfl,G6,H6,V6,_,_⟩;have U6:=q_ (U5.o.trans V6.o);clear x0 x1 x2 x3 x4 x5 x6 x7;obtain ⟨x0,x1,x2,x3,x4,x5,x6,x7⟩:=KC.o W6 G6 U6.o;go_wp2_with fail;refine end0 rfl rfl ?_;exact ⟨rfl,(RG.seq (k1:=800+2*cb) (HU.o.trans U6.o) q4 o_ o_ (RG.zero H6.o (Up.refl _ _))).more o_⟩
 by_cases hk4:kd=4
 ·subst hk4;go_wp2_with fail;refine (bv_ b F pv A0 N0 o G0 W1 H1.o o_ _ _ _ _ _).mono ?_;rintro e W2 ⟨rfl,G2,H2,V2,_,_⟩;have U2:=q_ (U1.o.trans V2.o);clear x0 x1 x2 x3 x4 x5 x6 x7;obtain ⟨x0,x1,x2,x3,x4,x5,x6,x7⟩:=KC.o W2 G2 U2.o;go_wp2_with fail;refine (HB.o W2 G2 A0 (N0+1) o H2.o (HU.o.trans U2.o) o_ o_).mono ?_;rintro e W3 ⟨rfl,G3,A9,N3,H3,AG,AX,AS,V3⟩;have U3:=q_ (U2.o.trans V3.o);clear x0 x1 x2 x3 x4 x5 x6 x7;have q3:∀ q ∈ qs,q ∈ A9:=fun q hq=>AG q (Q0.o q hq)
  obtain ⟨x0,x1,x2,x3,x4,x5,x6,x7⟩:=KC.o W3 G3 U3.o;go_wp2_with fail;refine (bv_ b F pv A9 N3 o G3 W3 H3.o o_ _ _ _ _ _).mono ?_;rintro e W4 ⟨rfl,G4,H4,V4,_,_⟩;have U4:=q_ (U3.o.trans V4.o);clear x0 x1 x2 x3 x4 x5 x6 x7;obtain ⟨x0,x1,x2,x3,x4,x5,x6,x7⟩:=KC.o W4 G4 U4.o;go_wp2_with fail;refine (here_g b F pv A9 (N3+1) o G4 _ (H4.o.below ((b_).alloc (l_) _)) o_ _ 1 1 o_ (pl_lit H4.o N0 o_)).mono ?_;rintro e W5 ⟨rfl,H5,Ay⟩;have V5:=q_ ((Up.of_below (Y:=G4) ((Below.refl W4 W4).alloc (l_) (.cells #[i_ ((N0:Nat):Int)] 3))).trans Ay.out);have U5:=q_ (U4.o.trans V5.o);clear x0 x1 x2 x3 x4 x5 x6 x7;obtain ⟨x0,x1,x2,x3,x4,x5,x6,x7⟩:=KC.o W5 G4 U5.o;go_wp2_with fail;refine (HC.o W5 G4 A9 (N3+1) o H5.o (HU.o.trans U5.o) o_ o_).mono ?_;rintro e W6 ⟨rfl,G6,Ak,N6,H6,AH,AZ,AT,V6⟩;have U6:=q_ (U5.o.trans V6.o);clear x0 x1 x2 x3 x4 x5 x6 x7;have q6:∀ q ∈ qs,q ∈ Ak:=fun q hq=>AH q (q3 q hq)
  obtain ⟨x0,x1,x2,x3,x4,x5,x6,x7⟩:=KC.o W6 G6 U6.o;go_wp2_with fail;refine (here_g b F pv Ak N6 o G6 _ (H6.o.below ((b_).alloc (l_) _)) o_ _ 1 1 o_ (pl_lit H6.o N3 o_)).mono ?_;rintro e W7 ⟨rfl,H7,Az⟩;have V7:=q_ ((Up.of_below (Y:=G6) ((Below.refl W6 W6).alloc (l_) (.cells #[i_ ((N3:Nat):Int)] 3))).trans Az.out);have U7:=q_ (U6.o.trans V7.o);clear x0 x1 x2 x3 x4 x5 x6 x7;obtain ⟨x0,x1,x2,x3,x4,x5,x6,x7⟩:=KC.o W7 G6 U7.o;go_wp2_with fail;refine end0 rfl rfl ?_;exact ⟨rfl,(RG.seq (k1:=800+2*cb) (HU.o.trans U7.o) q6 o_ o_ (RG.zero H7.o (Up.refl _ _))).more o_⟩
 by_cases hk7:kd=7
 ·subst hk7;exact va_
 by_cases hk8:kd=8
 ·subst hk8;exact va_
 by_cases hk10:kd=10
 ·subst hk10;exact va_
 by_cases hk11:kd=11
 ·subst hk11;go_wp2_with fail;refine (more_g b F pv A0 N0 o G0 W1 H1.o).mono ?_;rintro e W2 ⟨⟨r2,rfl⟩,G2,Ae,N2,H2,AF,AW,AR,V2⟩;have U2:=q_ (U1.o.trans V2.o);clear x0 x1 x2 x3 x4 x5 x6 x7;have q2:∀ q ∈ qs,q ∈ Ae:=fun q hq=>AF q (Q0.o q hq)
  obtain ⟨x0,x1,x2,x3,x4,x5,x6,x7⟩:=KC.o W2 G2 U2.o;go_wp2_with fail;refine (bv_ b F pv Ae N2 o G2 W2 H2.o o_ _ _ _ _ _).mono ?_;rintro e W3 ⟨rfl,G3,H3,V3,_,_⟩;have U3:=q_ (U2.o.trans V3.o);clear x0 x1 x2 x3 x4 x5 x6 x7;obtain ⟨x0,x1,x2,x3,x4,x5,x6,x7⟩:=KC.o W3 G3 U3.o;go_wp2_with fail;refine (mark_g b F pv Ae (N2+1) o G3 W3 H3.o o_).mono ?_;rintro e W4 ⟨rfl,G4,A1,N4,H4,Ad,AD,AC,V4⟩;have U4:=q_ (U3.o.trans V4.o);clear x0 x1 x2 x3 x4 x5 x6 x7;have q4:∀ q ∈ qs,q ∈ A1:=fun q hq=>Ad q (q2 q hq)
  obtain ⟨x0,x1,x2,x3,x4,x5,x6,x7⟩:=KC.o W4 G4 U4.o;go_wp2_with fail;refine (bv_ b F pv A1 N4 o G4 W4 H4.o o_ _ _ _ _ _).mono ?_;rintro e W5 ⟨rfl,G5,H5,V5,_,_⟩;have U5:=q_ (U4.o.trans V5.o);clear x0 x1 x2 x3 x4 x5 x6 x7;obtain ⟨x0,x1,x2,x3,x4,x5,x6,x7⟩:=KC.o W5 G5 U5.o;go_wp2_with fail;refine (bv_ b F pv A1 (N4+1) o G5 W5 H5.o o_ _ _ _ _ _).mono ?_;rintro e W6 ⟨rfl,G6,H6,V6,_,_⟩;have U6:=q_ (U5.o.trans V6.o);clear x0 x1 x2 x3 x4 x5 x6 x7;obtain ⟨x0,x1,x2,x3,x4,x5,x6,x7⟩:=KC.o W6 G6 U6.o;go_wp2_with fail;refine (bv_ b F pv A1 (N4+1+1) o G6 W6 H6.o o_ _ _ _ _ _).mono ?_;rintro e W7 ⟨rfl,G7,H7,V7,_,_⟩;have U7:=q_ (U6.o.trans V7.o);clear x0 x1 x2 x3 x4 x5 x6 x7;obtain ⟨x0,x1,x2,x3,x4,x5,x6,x7⟩:=KC.o W7 G7 U7.o;obtain ⟨v7,y7,Ai⟩:=H7.o.cell (j:=7) rfl rfl;obtain ⟨m7,rfl⟩:=Ai.int;have AN:=H7.o.fz 7;obtain ⟨g7,u7,_⟩:=H7.o.set (j:=7) (v:=i_ (wrap64 (m7 - 1))) rfl rfl (.num _);have Al:=q_ g7;have Ax:=q_ (U7.o.trans u7);clear g7 u7 Ai;go_wp2_with fail;refine end0 rfl rfl ?_;exact ⟨rfl,(RG.seq (k1:=800+2*cb) (HU.o.trans Ax.o) q4 o_ o_ (RG.zero Al.o (Up.refl _ _))).more o_⟩
 go_wp2_with fail;refine end0 rfl rfl ?_;exact ⟨rfl,(RG.seq (k1:=800+2*cb) (HU.o.trans U1.o) Q0.o o_ o_ (RG.zero H1.o (Up.refl _ _))).more o_⟩
end Go.Proofs.YtfolidlmgfhkiaaGreat
