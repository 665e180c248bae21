/- Lemmas: each says what a function of the program leaves, under the conditions that it states. -/
import Derived.Test.YtfolidlmgfhkiaaGreatZ23
set_option linter.unusedVariables false
set_option linter.unusedSimpArgs false
set_option maxRecDepth 100000
set_option maxHeartbeats 16000000
namespace Go.Proofs.YtfolidlmgfhkiaaGreat
open Go.RowKit Go.Proofs.Tryz
theorem ExC.go {b F o cst:Nat} {pv:Nat->Value} {w w':World} {G G':NP} {v:Value} (h:ExC b F pv o cst w G v) (u:Up w G w' G'):ExC b F pv o cst w' G' v:=fun w2 G2 qs N r hg u2=>h w2 G2 qs N r hg (u.trans u2)
theorem LsC.low {b F cst om om' nb cb:Nat} {pv:Nat->Value} {w:World} {G:NP} {B:OA} (h:LsC b F pv cst w G om B nb cb) (ho:om'<=om):LsC b F pv cst w G om' B nb cb:=fun w2 G2 qs N o hg u2 hN A0=>h w2 G2 qs N o hg u2 hN o_
theorem ei_patch (N F:Nat):EI prog 187 200 [.sat (idxP N),.sat (idxP F)] 16:=EI.of (z:=.agg #[i_ 0,i_ 0]) underlying187 k_ rfl t_
theorem lit_patch {N F:Nat} {w:World} {Y:NP} (i r:Nat) (hi:i<N) (hr:r<F) (h:¬Y w):SlT (w.alloc (.cells #[i_ (i:Int),i_ (r:Int)] 200)) Y (N+1) [.sat (idxP N),.sat (idxP F)] (some (a_ w)) 1 1 :=
 SlT.lit1 (VTs.cons (.sat _ _ rfl ⟨i,rfl,hi⟩) (VTs.cons (.sat _ _ rfl ⟨r,rfl,hr⟩) VTs.nil)) 200 h o_
theorem put_calls (b F:Nat) (pv:Nat->Value) (qs:List Nat) (N o:Nat) (G:NP) (w:World) (h:GC b F pv qs N N o G w) (hN:N<=10000000000) (A:OA) (n c r:Nat) (hr:r<F) (x5:w.cell? (f_ b 5)=some (.slice A n c)) (x0 x1 x2 x3 x4:Int) :
  Calls prog 112 #[.pointer (some (a_ b)),i_ x0,i_ x1,i_ x2,i_ x3,i_ x4] w.drew fun e w1=>e=.returned (i_ (N:Int))/\∃ G2,Hid (GC b F pv qs (N+1) (N+1) o G2 w1)/\Hid (Up w G w1 G2)/\w1.cell? (f_ b 5)=some (.slice A n c)/\b<w1/\n<=N+1/\Hid (OwT (w1.alloc (.cells #[i_ (N:Int),i_ (r:Int)] 200)) 0 200 [.sat (idxP (N+1)),.sat (idxP F)] G2 (N+2) A n c)/\Hid (SlT (w1.alloc (.cells #[i_ (N:Int),i_ (r:Int)] 200)) (Wi G2 (Value.slice A n c).ownBlock) (N+2) [.sat (idxP (N+1)),.sat (idxP F)] (some (a_ w1)) 1 1):=by
 have hd:GC b F pv qs N N o G w.drew:=h.below (Below.drew (b_));have A0:n<=N+1:=by
  obtain ⟨A',n',c',hc,hn,_⟩:=h.own (j:=5) rfl rfl;rw [x5] at hc;injection hc with hc;injection hc with q1 q2 q3;subst q2;exact hn
 refine (bq_ b F pv qs N o G w.drew hd hN x0 x1 x2 x3 x4).mono ?_;rintro e w1 ⟨rfl,G2,H2,U2,K2,P2⟩;have y5:w1.cell? (f_ b 5)=some (.slice A n c):=(K2.o.2 5 o_ o_).trans x5;obtain ⟨A',n',c',hc,hn,hO,hG,_⟩:=H2.o.own (j:=5) rfl rfl;rw [y5] at hc;injection hc with hc;injection hc with q1 q2 q3;subst q1 q2 q3;exact ⟨rfl,G2,H2,q_ ((Up.of_below (Below.drew (b_))).trans U2.o),y5,H2.o.blt,A0,q_ (hO.below ((b_).alloc (l_) _)),q_ (lit_patch (N:=N+1) N r o_ hr (fun hx=>by
  rcases hx with hx | hx
  ·exact Nat.lt_irrefl _ (H2.o.lt _ hx)
  exact Nat.lt_irrefl _ (H2.o.lt _ (hG _ hx))))⟩
theorem stmt_step (b F:Nat) (pv:Nat->Value) (PA:OA) (pn pc dp:Nat) (hpv:pv 0=.slice PA pn pc) (o cb:Nat) (qs:List Nat) (N:Nat) (G:NP) (w:World) (h:GC b F pv qs N N o G w) (kd:Int) (s f:ByteArray) (n op:Int) (E B C:OA) (m c m1 c1 m2 c2:Nat) (ho:o<=900) (hN:N+(800+2*cb)<=10000000000) (hm:m<=20) (hF:F=pn)
  (h5:kd=5->2<=m) (h6:kd=6->1<=m) (h3:kd=3->f=nameF∨f=nameG) (hp:SlT w G 20 (cy_ dp) PA pn pc) (hnm:∀ s,s=nameF∨s=nameG->∃ q,q<pn/\nameAt w PA q s)
  (hk:∀ k,k<m->∃ (kd' n':Int) (s':ByteArray) (op':Int) (A':OA) (m' c' g o':Nat),ExE w E k kd' n' s' op' A' m' c' g o'/\¬G g/\ExC b F pv o 31 w G (.agg #[i_ kd',i_ n',.string s',i_ op',.slice A' m' c'])) (hb:LsC b F pv cb w G (o+1) B m1 c1) (hc:LsC b F pv cb w G (o+1) C m2 c2) :
  Calls prog 165 #[.pointer (some (a_ b)),.agg #[i_ kd,.string s,.string f,i_ n,i_ op,.slice E m c,.slice B m1 c1,.slice C m2 c2]] w fun e w'=>e=.returned (.tuple #[])/\RG b F pv qs N o G w (800+2*cb) w':=by
 obtain ⟨W,hW,Ab,AA,B0⟩:=af_ w [i_ kd,.string s,.string f,i_ n,i_ op,.slice E m c,.slice B m1 c1,.slice C m2 c2] 212;have HU:=h_ (Up w G W G) (Up.of_below Ab);have H:=q_ (h.below Ab);have Ah:¬G w:=fun hx=>Nat.lt_irrefl _ (h.lt _ hx)
 have KC:=q_ (stb_up (w:=w) (W:=W) (G:=G) B0 o_ Ah);have HB:=q_ hb;have HC:=q_ hc;have HK:=q_ hk;have HP:=q_ hp;have Ao:=q_ hnm;have Ar:=q_ hpv;have HF:=q_ hF;obtain ⟨x0,x1,x2,x3,x4,x5,x6,x7⟩:=KC.o W G (Up.refl _ _);clear B0 Ab AA h hk Ah hb hc hp hnm hpv hF;go_enter func165,ntmps165;go_upto_region 1 with fail;rw [←hW];clear hW;by_cases h9:kd=9
 ·subst h9;go_wp2_with fail;refine (try_g b F pv o cb qs N G W H.o s f 9 n op E B C m c m1 c1 m2 c2 ho o_ (HB.o.go HU.o) (HC.o.go HU.o)).mono ?_;rintro e W1 ⟨rfl,R1⟩;have R1:=q_ R1;go_wp2_with fail;refine ret0 rfl rfl ?_;exact ⟨rfl,(RG.seq (k1:=0) HU.o (fun _ h=>h) (l_) (l_) R1.o).more o_⟩
 by_cases h6':kd=6
 ·subst h6';have A8:=h6 rfl;have A4:=h_ (∀ k,k<m->∃ (kd' n':Int) (s':ByteArray) (op':Int) (A':OA) (m' c' g o':Nat),ExE W E k kd' n' s' op' A' m' c' g o'/\¬G g/\ExC b F pv o 31 W G (.agg #[i_ kd',i_ n',.string s',i_ op',.slice A' m' c'])) (fun k hk=>by
   obtain ⟨a1,a2,a3,a4,a5,a6,a7,g,o',e1,e2,e3⟩:=HK.o k hk
   exact ⟨a1,a2,a3,a4,a5,a6,a7,g,o',e1.up HU.o e2,e2,e3.go HU.o⟩)
  go_wp2_with fail;refine (loop6_g b F pv o cb qs N G W H.o s f n op E B C m c m1 c1 m2 c2 ho o_ A8 A4.o ((HB.o.go HU.o).low o_)).mono ?_;rintro e W1 ⟨rfl,R1⟩;have R1:=q_ R1;go_wp2_with fail;refine ret0 rfl rfl ?_;exact ⟨rfl,(RG.seq (k1:=0) HU.o (fun _ h=>h) (l_) (l_) R1.o).more o_⟩
 by_cases h5':kd=5
 ·subst h5';have A8:=h5 rfl;have A4:=h_ (∀ k,k<m->∃ (kd' n':Int) (s':ByteArray) (op':Int) (A':OA) (m' c' g o':Nat),ExE W E k kd' n' s' op' A' m' c' g o'/\¬G g/\ExC b F pv o 31 W G (.agg #[i_ kd',i_ n',.string s',i_ op',.slice A' m' c'])) (fun k hk=>by
   obtain ⟨a1,a2,a3,a4,a5,a6,a7,g,o',e1,e2,e3⟩:=HK.o k hk
   exact ⟨a1,a2,a3,a4,a5,a6,a7,g,o',e1.up HU.o e2,e2,e3.go HU.o⟩)
  go_wp2_with fail;refine (loop5_g b F pv o cb qs N G W H.o s f n op E B C m c m1 c1 m2 c2 ho o_ A8 A4.o ((HB.o.go HU.o).low o_)).mono ?_;rintro e W1 ⟨rfl,R1⟩;have R1:=q_ R1;go_wp2_with fail;refine ret0 rfl rfl ?_;exact ⟨rfl,(RG.seq (k1:=0) HU.o (fun _ h=>h) (l_) (l_) R1.o).more o_⟩
 go_upto_region 8 with fail;clear x0 x1 x2 x3 x4 x5 x6 x7 h9 h6' h5'
 rename (kd == 9)=false=>ha9
 rename (kd == 6)=false=>ha6
 rename (kd == 5)=false=>ha5
 clear ha9 ha6 ha5;go_loopw [27] (fun i wr=>∃ (k:Nat) (G':NP) (qs':List Nat) (N':Nat),k<=m/\i=i_ k/\Hid (GC b F pv qs' N' N' o G' wr)/\Hid (Up W G wr G')/\Hid (∀ q ∈ qs,q ∈ qs')/\N<=N'/\N'<=N+k*31) (fun i _=>m - (intOf i).toNat)
 case atStart=>exact ⟨0,G,qs,N,o_,rfl,H,q_ (Up.refl _ _),q_ (fun _ h=>h),l_,o_⟩
 obtain ⟨k,G0,A0,N0,AP,rfl,H0,U0,Q0,AU,AQ⟩:=hrel;by_cases hlt:k<m
 ·have Ac:(k:Int)<(m:Int):=by omega
  obtain ⟨kd',n',s',op',A',m',c',g,o',hE,hg,hC⟩:=HK.o k hlt;obtain ⟨rfl,AO,z0,z1,z2,z3,z4⟩:=hE.up (HU.o.trans U0.o) hg;have An:=q_ hC;have HA:=q_ (H0.o.below ((Below.refl wr wr).alloc (l_) (.cells #[i_ kd',i_ n',.string s',i_ op',.slice A' m' c'] 209)));have UA:=q_ (U0.o.trans (Up.of_below ((Below.refl wr wr).alloc (l_) (.cells #[i_ kd',i_ n',.string s',i_ op',.slice A' m' c'] 209))));clear hE hC;go_wp2_with fail;refine (An.o _ G0 A0 N0 _ HA.o (HU.o.trans UA.o) o_).mono ?_;rintro e W1 ⟨rfl,G1,AL,N1,H1,AE,AV,A8,V1⟩;clear z0 z1 z2 z3 z4;go_wp2;go_roundw
  case rel =>
   exact ⟨k+1,G1,AL,N1,o_,by go_num,H1,q_ (UA.o.trans V1.o),q_ (fun q hq=>AE q (Q0.o q hq)),o_,o_⟩
  case measure=>simp [intOf];omega
 have Ac:¬(k:Int)<(m:Int):=by omega
 obtain ⟨x0,x1,x2,x3,x4,x5,x6,x7⟩:=KC.o wr G0 U0.o;go_wp2_with fail;refine (fa_ b F pv A0 N0 o G0 wr H0.o _).mono ?_;rintro e W1 ⟨⟨r1,rfl⟩,A2⟩;have H1:=q_ (H0.o.below A2);have V1:=q_ (Up.of_below (Y:=G0) A2);clear A2;have U1:=q_ (U0.o.trans V1.o);clear x0 x1 x2 x3 x4 x5 x6 x7;obtain ⟨x0,x1,x2,x3,x4,x5,x6,x7⟩:=KC.o W1 G0 U1.o;by_cases A4:kd=1
 ·subst A4;go_wp2_with fail;refine (bq_ b F pv A0 N0 o G0 W1 H1.o o_ _ _ _ _ _).mono ?_;rintro e W2 ⟨rfl,G2,H2,V2,_,_⟩;have U2:=q_ (U1.o.trans V2.o);clear x0 x1 x2 x3 x4 x5 x6 x7;obtain ⟨x0,x1,x2,x3,x4,x5,x6,x7⟩:=KC.o W2 G2 U2.o;go_wp2_with fail;refine end0 rfl rfl ?_;exact ⟨rfl,(RG.seq (k1:=800+2*cb) (HU.o.trans U2.o) Q0.o o_ o_ (RG.zero H2.o (Up.refl _ _))).more o_⟩
 by_cases hk2:kd=2
 ·subst hk2;go_wp2_with fail;refine (bq_ b F pv A0 N0 o G0 W1 H1.o o_ _ _ _ _ _).mono ?_;rintro e W2 ⟨rfl,G2,H2,V2,_,_⟩;have U2:=q_ (U1.o.trans V2.o);clear x0 x1 x2 x3 x4 x5 x6 x7;obtain ⟨x0,x1,x2,x3,x4,x5,x6,x7⟩:=KC.o W2 G2 U2.o;go_wp2_with fail;refine end0 rfl rfl ?_;exact ⟨rfl,(RG.seq (k1:=800+2*cb) (HU.o.trans U2.o) Q0.o o_ o_ (RG.zero H2.o (Up.refl _ _))).more o_⟩
 by_cases hk12:kd=12
 ·subst hk12;go_wp2_with fail;refine (bq_ b F pv A0 N0 o G0 W1 H1.o o_ _ _ _ _ _).mono ?_;rintro e W2 ⟨rfl,G2,H2,V2,_,_⟩;have U2:=q_ (U1.o.trans V2.o);clear x0 x1 x2 x3 x4 x5 x6 x7;obtain ⟨x0,x1,x2,x3,x4,x5,x6,x7⟩:=KC.o W2 G2 U2.o;go_wp2_with fail;refine end0 rfl rfl ?_;exact ⟨rfl,(RG.seq (k1:=800+2*cb) (HU.o.trans U2.o) Q0.o o_ o_ (RG.zero H2.o (Up.refl _ _))).more o_⟩
 by_cases hk3:kd=3
 ·subst hk3;obtain ⟨vp,xp,Aj⟩:=H1.o.cell (j:=0) rfl rfl;have A7:vp=pv 0:=Aj.sat_of;rw [A7,Ar.o] at xp;have As:=h_ (SlT W1.drew G0 20 (cy_ dp) PA pn pc) ((HP.o.go (HU.o.trans U1.o) (l_)).up (Kp.of_below (Below.drew (b_))) (l_));have Ap:=q_ (show ∃ q,q<pn/\nameAt W1.drew PA q f from by
   obtain ⟨q,hq,g',o',e1,e2⟩:=Ao.o f (h3 rfl)
   obtain ⟨fs,P,np,cp,FB,nb,AM,gf,B1,Ag,_,_,_,AB⟩:=HP.o.fn hq
   have e3:=Ag.hA
   rw [e1] at e3
   injection e3 with e3
   injection e3 with e4 e5
   subst e4 e5
   exact ⟨q,hq,g',o',e1,((HU.o.trans U1.o).kp.cell Ag.lt AB).trans e2⟩)
  clear Aj A7;go_upto_region 21 with fail;go_cut [7] (fun v wx=>∃ r:Nat,v=i_ r/\r<pn/\Hid (Below W1 W1 wx))
  case first =>
   go_region_law ((try go_simp);go_at_call 160;refine (Index_t G0 20 d_ dp PA pn pc f W1.drew As.o).mono ?_;rintro e w1 ⟨⟨r,rfl,hr,AJ⟩,A2⟩;have Am:=q_ A2;clear A2);all_goals
    obtain ⟨r',rfl,AI⟩:∃ r':Nat,r=r'/\r'<pn:=by
     rcases hr with hr | hr
     ·exact absurd hr (AJ.o Ap.o)
     exact hr
    go_wp2_with fail;go_meet;exact ⟨r',rfl,AI,q_ ((Below.drew (b_)).trans Am.o)⟩
  case rest =>
  rename World=>W2
  obtain ⟨r,rfl,AK,A3⟩:=hcut;have H2:=q_ (H1.o.below A3.o);have V2:=q_ (Up.of_below (Y:=G0) A3.o);clear xp;have U2:=q_ (U1.o.trans V2.o);clear x0 x1 x2 x3 x4 x5 x6 x7;obtain ⟨x0,x1,x2,x3,x4,x5,x6,x7⟩:=KC.o W2 G0 U2.o;obtain ⟨A5,n5,c5,y5,_⟩:=H2.o.own (j:=5) rfl rfl;have Av:=q_ y5;go_upto_region 22 with fail;go_cut [] (fun wx=>∃ G',Hid (GC b F pv A0 (N0+1) (N0+1) o G' wx)/\Hid (Up W2 G0 wx G'))
  case first =>
   go_region_law (first
    | ((try go_simp);go_at_call 112;refine (put_calls b F pv A0 N0 o G0 W2 H2.o o_ A5 n5 c5 r (by rw [HF.o];exact AK) Av.o _ _ _ _ _).mono ?_;rintro e w1 ⟨rfl,G2,H2,U2,z5,lb,AY,Aq,Au⟩;have Aw:=q_ H2.o.lt;have Aa:=q_ z5;clear y5)
    | (refine cw_ rfl (.tmp 74) (.tmp 82) rfl (ei_patch (N0+1) F) v_ Aq.o v_ Au.o (fun k hk=>by have:=Aw.o k hk;simp;omega) m_ o_ (Nat.zero_le _) ?_;intro A6 c6 w6 o6 g6 l6;have O6:=q_ o6;have G6:=q_ g6;have L6:=q_ l6;have Af:=q_ ((H2.o.below ((b_).alloc (l_) _)).grown (j:=5) rfl rfl ((ak_ _ _ _ _ lb).trans Aa.o) g6);have t5:=(Af.o.1 5 o_).trans ((ak_ _ _ _ _ lb).trans Aa.o);have ft:=Af.o.2.1;clear o6 g6 l6))
   all_goals
    obtain ⟨G3,g3,u3,_⟩:=(H2.o.below (w':=w1.alloc (.cells #[i_ ((N0:Nat):Int),i_ (r:Int)] 200)) ((b_).alloc (l_) _)).grow (j:=5) rfl rfl ((ak_ _ _ _ _ lb).trans Aa.o) O6.o (show n5+1<=N0+1+1 by omega) G6.o L6.o;have g4:=h_ (GC b F pv A0 (N0+1) (N0+1) o G3 _) (by simpa using g3);have u4:=q_ (U2.o.trans ((Up.of_below ((Below.refl w1 w1).alloc (l_) (.cells #[i_ ((N0:Nat):Int),i_ (r:Int)] 200))).trans u3));clear g3 u3;go_wp2_with fail;go_meet;exact ⟨G3,g4,u4⟩
  case rest =>
  rename World=>W3
  obtain ⟨G3,H3,V3⟩:=hcut;clear y5;have U3:=q_ (U2.o.trans V3.o);clear x0 x1 x2 x3 x4 x5 x6 x7;obtain ⟨x0,x1,x2,x3,x4,x5,x6,x7⟩:=KC.o W3 G3 U3.o;go_wp2_with fail;refine (mark_g b F pv A0 (N0+1) o G3 W3 H3.o o_).mono ?_;rintro e W4 ⟨rfl,G4,A1,N4,H4,Ad,AD,AC,V4⟩;have U4:=q_ (U3.o.trans V4.o);clear x0 x1 x2 x3 x4 x5 x6 x7;have q4:∀ q ∈ qs,q ∈ A1:=fun q hq=>Ad q (Q0.o q hq)
  obtain ⟨x0,x1,x2,x3,x4,x5,x6,x7⟩:=KC.o W4 G4 U4.o;go_wp2_with fail;refine (bq_ b F pv A1 N4 o G4 W4 H4.o o_ _ _ _ _ _).mono ?_;rintro e W5 ⟨rfl,G5,H5,V5,_,_⟩;have U5:=q_ (U4.o.trans V5.o);clear x0 x1 x2 x3 x4 x5 x6 x7;obtain ⟨x0,x1,x2,x3,x4,x5,x6,x7⟩:=KC.o W5 G5 U5.o;go_wp2_with fail;refine (bq_ b F pv A1 (N4+1) o G5 W5 H5.o o_ _ _ _ _ _).mono ?_;rintro e W6 ⟨rfl,G6,H6,V6,_,_⟩;have U6:=q_ (U5.o.trans V6.o);clear x0 x1 x2 x3 x4 x5 x6 x7;obtain ⟨x0,x1,x2,x3,x4,x5,x6,x7⟩:=KC.o W6 G6 U6.o;go_wp2_with fail;refine end0 rfl rfl ?_;exact ⟨rfl,(RG.seq (k1:=800+2*cb) (HU.o.trans U6.o) q4 o_ o_ (RG.zero H6.o (Up.refl _ _))).more o_⟩
 by_cases hk4:kd=4
 ·subst hk4;go_wp2_with fail;refine (bq_ b F pv A0 N0 o G0 W1 H1.o o_ _ _ _ _ _).mono ?_;rintro e W2 ⟨rfl,G2,H2,V2,_,_⟩;have U2:=q_ (U1.o.trans V2.o);clear x0 x1 x2 x3 x4 x5 x6 x7;obtain ⟨x0,x1,x2,x3,x4,x5,x6,x7⟩:=KC.o W2 G2 U2.o;go_wp2_with fail;refine (HB.o W2 G2 A0 (N0+1) o H2.o (HU.o.trans U2.o) o_ o_).mono ?_;rintro e W3 ⟨rfl,G3,A9,N3,H3,AG,AX,AS,V3⟩;have U3:=q_ (U2.o.trans V3.o);clear x0 x1 x2 x3 x4 x5 x6 x7;have q3:∀ q ∈ qs,q ∈ A9:=fun q hq=>AG q (Q0.o q hq)
  obtain ⟨x0,x1,x2,x3,x4,x5,x6,x7⟩:=KC.o W3 G3 U3.o;go_wp2_with fail;refine (bq_ b F pv A9 N3 o G3 W3 H3.o o_ _ _ _ _ _).mono ?_;rintro e W4 ⟨rfl,G4,H4,V4,_,_⟩;have U4:=q_ (U3.o.trans V4.o);clear x0 x1 x2 x3 x4 x5 x6 x7;obtain ⟨x0,x1,x2,x3,x4,x5,x6,x7⟩:=KC.o W4 G4 U4.o;go_wp2_with fail;refine (here_g b F pv A9 (N3+1) o G4 _ (H4.o.below ((b_).alloc (l_) _)) o_ _ 1 1 o_ (pl_lit H4.o N0 o_)).mono ?_;rintro e W5 ⟨rfl,H5,Ay⟩;have V5:=q_ ((Up.of_below (Y:=G4) ((Below.refl W4 W4).alloc (l_) (.cells #[i_ ((N0:Nat):Int)] 3))).trans Ay.out);have U5:=q_ (U4.o.trans V5.o);clear x0 x1 x2 x3 x4 x5 x6 x7;obtain ⟨x0,x1,x2,x3,x4,x5,x6,x7⟩:=KC.o W5 G4 U5.o;go_wp2_with fail;refine (HC.o W5 G4 A9 (N3+1) o H5.o (HU.o.trans U5.o) o_ o_).mono ?_;rintro e W6 ⟨rfl,G6,Ak,N6,H6,AH,AZ,AT,V6⟩;have U6:=q_ (U5.o.trans V6.o);clear x0 x1 x2 x3 x4 x5 x6 x7;have q6:∀ q ∈ qs,q ∈ Ak:=fun q hq=>AH q (q3 q hq)
  obtain ⟨x0,x1,x2,x3,x4,x5,x6,x7⟩:=KC.o W6 G6 U6.o;go_wp2_with fail;refine (here_g b F pv Ak N6 o G6 _ (H6.o.below ((b_).alloc (l_) _)) o_ _ 1 1 o_ (pl_lit H6.o N3 o_)).mono ?_;rintro e W7 ⟨rfl,H7,Az⟩;have V7:=q_ ((Up.of_below (Y:=G6) ((Below.refl W6 W6).alloc (l_) (.cells #[i_ ((N3:Nat):Int)] 3))).trans Az.out);have U7:=q_ (U6.o.trans V7.o);clear x0 x1 x2 x3 x4 x5 x6 x7;obtain ⟨x0,x1,x2,x3,x4,x5,x6,x7⟩:=KC.o W7 G6 U7.o;go_wp2_with fail;refine end0 rfl rfl ?_;exact ⟨rfl,(RG.seq (k1:=800+2*cb) (HU.o.trans U7.o) q6 o_ o_ (RG.zero H7.o (Up.refl _ _))).more o_⟩
 by_cases hk7:kd=7
 ·subst hk7;go_wp2_with fail;refine (bq_ b F pv A0 N0 o G0 W1 H1.o o_ _ _ _ _ _).mono ?_;rintro e W2 ⟨rfl,G2,H2,V2,_,_⟩;have U2:=q_ (U1.o.trans V2.o);clear x0 x1 x2 x3 x4 x5 x6 x7;obtain ⟨x0,x1,x2,x3,x4,x5,x6,x7⟩:=KC.o W2 G2 U2.o;go_wp2_with fail;refine end0 rfl rfl ?_;exact ⟨rfl,(RG.seq (k1:=800+2*cb) (HU.o.trans U2.o) Q0.o o_ o_ (RG.zero H2.o (Up.refl _ _))).more o_⟩
 by_cases hk8:kd=8
 ·subst hk8;go_wp2_with fail;refine (bq_ b F pv A0 N0 o G0 W1 H1.o o_ _ _ _ _ _).mono ?_;rintro e W2 ⟨rfl,G2,H2,V2,_,_⟩;have U2:=q_ (U1.o.trans V2.o);clear x0 x1 x2 x3 x4 x5 x6 x7;obtain ⟨x0,x1,x2,x3,x4,x5,x6,x7⟩:=KC.o W2 G2 U2.o;go_wp2_with fail;refine end0 rfl rfl ?_;exact ⟨rfl,(RG.seq (k1:=800+2*cb) (HU.o.trans U2.o) Q0.o o_ o_ (RG.zero H2.o (Up.refl _ _))).more o_⟩
 by_cases hk10:kd=10
 ·subst hk10;go_wp2_with fail;refine (bq_ b F pv A0 N0 o G0 W1 H1.o o_ _ _ _ _ _).mono ?_;rintro e W2 ⟨rfl,G2,H2,V2,_,_⟩;have U2:=q_ (U1.o.trans V2.o);clear x0 x1 x2 x3 x4 x5 x6 x7;obtain ⟨x0,x1,x2,x3,x4,x5,x6,x7⟩:=KC.o W2 G2 U2.o;go_wp2_with fail;refine end0 rfl rfl ?_;exact ⟨rfl,(RG.seq (k1:=800+2*cb) (HU.o.trans U2.o) Q0.o o_ o_ (RG.zero H2.o (Up.refl _ _))).more o_⟩
 by_cases hk11:kd=11
 ·subst hk11;go_wp2_with fail;refine (more_g b F pv A0 N0 o G0 W1 H1.o).mono ?_;rintro e W2 ⟨⟨r2,rfl⟩,G2,Ae,N2,H2,AF,AW,AR,V2⟩;have U2:=q_ (U1.o.trans V2.o);clear x0 x1 x2 x3 x4 x5 x6 x7;have q2:∀ q ∈ qs,q ∈ Ae:=fun q hq=>AF q (Q0.o q hq)
  obtain ⟨x0,x1,x2,x3,x4,x5,x6,x7⟩:=KC.o W2 G2 U2.o;go_wp2_with fail;refine (bq_ b F pv Ae N2 o G2 W2 H2.o o_ _ _ _ _ _).mono ?_;rintro e W3 ⟨rfl,G3,H3,V3,_,_⟩;have U3:=q_ (U2.o.trans V3.o);clear x0 x1 x2 x3 x4 x5 x6 x7;obtain ⟨x0,x1,x2,x3,x4,x5,x6,x7⟩:=KC.o W3 G3 U3.o;go_wp2_with fail;refine (mark_g b F pv Ae (N2+1) o G3 W3 H3.o o_).mono ?_;rintro e W4 ⟨rfl,G4,A1,N4,H4,Ad,AD,AC,V4⟩;have U4:=q_ (U3.o.trans V4.o);clear x0 x1 x2 x3 x4 x5 x6 x7;have q4:∀ q ∈ qs,q ∈ A1:=fun q hq=>Ad q (q2 q hq)
  obtain ⟨x0,x1,x2,x3,x4,x5,x6,x7⟩:=KC.o W4 G4 U4.o;go_wp2_with fail;refine (bq_ b F pv A1 N4 o G4 W4 H4.o o_ _ _ _ _ _).mono ?_;rintro e W5 ⟨rfl,G5,H5,V5,_,_⟩;have U5:=q_ (U4.o.trans V5.o);clear x0 x1 x2 x3 x4 x5 x6 x7;obtain ⟨x0,x1,x2,x3,x4,x5,x6,x7⟩:=KC.o W5 G5 U5.o;go_wp2_with fail;refine (bq_ b F pv A1 (N4+1) o G5 W5 H5.o o_ _ _ _ _ _).mono ?_;rintro e W6 ⟨rfl,G6,H6,V6,_,_⟩;have U6:=q_ (U5.o.trans V6.o);clear x0 x1 x2 x3 x4 x5 x6 x7;obtain ⟨x0,x1,x2,x3,x4,x5,x6,x7⟩:=KC.o W6 G6 U6.o;go_wp2_with fail;refine (bq_ b F pv A1 (N4+1+1) o G6 W6 H6.o o_ _ _ _ _ _).mono ?_;rintro e W7 ⟨rfl,G7,H7,V7,_,_⟩;have U7:=q_ (U6.o.trans V7.o);clear x0 x1 x2 x3 x4 x5 x6 x7;obtain ⟨x0,x1,x2,x3,x4,x5,x6,x7⟩:=KC.o W7 G7 U7.o;obtain ⟨v7,y7,Ai⟩:=H7.o.cell (j:=7) rfl rfl;obtain ⟨m7,rfl⟩:=Ai.int;have AN:=H7.o.fz 7;obtain ⟨g7,u7,_⟩:=H7.o.set (j:=7) (v:=i_ (wrap64 (m7 - 1))) rfl rfl (.num _);have Al:=q_ g7;have Ax:=q_ (U7.o.trans u7);clear g7 u7 Ai;go_wp2_with fail;refine end0 rfl rfl ?_;exact ⟨rfl,(RG.seq (k1:=800+2*cb) (HU.o.trans Ax.o) q4 o_ o_ (RG.zero Al.o (Up.refl _ _))).more o_⟩
 go_wp2_with fail;refine end0 rfl rfl ?_;exact ⟨rfl,(RG.seq (k1:=800+2*cb) (HU.o.trans U1.o) Q0.o o_ o_ (RG.zero H1.o (Up.refl _ _))).more o_⟩
theorem StC.go {w w':World} {A:OA} {k:Nat} {kd:Int} {s f:ByteArray} {n op:Int} {E B C:OA} {m c m1 c1 m2 c2 g o:Nat} {G G':NP} (h:StC w A k kd s f n op E B C m c m1 c1 m2 c2 g o) (u:Up w G w' G') (hg:¬G g):StC w' A k kd s f n op E B C m c m1 c1 m2 c2 g o:=by
 have hc:∀ j,w'.cell? (f_ g j)=w.cell? (f_ g j):=fun j=>u.kp.cell h.lt hg
 exact ⟨h.hA,lt_ h.lt u.kp.size,(hc _).trans h.k0,(hc _).trans h.k1,(hc _).trans h.k2,(hc _).trans h.k3,(hc _).trans h.k4,(hc _).trans h.k5,(hc _).trans h.k6,(hc _).trans h.k7⟩
def StmC (b F:Nat) (pv:Nat->Value) (cst:Nat) (w:World) (G:NP) (om:Nat) (v:Value):Prop:=∀ (w':World) (G':NP) (qs':List Nat) (N' o:Nat),GC b F pv qs' N' N' o G' w'->Up w G w' G'->N'+cst<=10000000000->o<=om->Calls prog 165 #[.pointer (some (a_ b)),v] w' fun e w''=>e=.returned (.tuple #[])/\RG b F pv qs' N' o G' w' cst w''
theorem list_step (b F:Nat) (pv:Nat->Value) (cst om:Nat) (w:World) (G:NP) (B:OA) (nb cb:Nat) (hnb:nb<=20)
  (hk:∀ k,k<nb->∃ (kd:Int) (s f:ByteArray) (nn op:Int) (E B' C:OA) (m c' m1 c1 m2 c2 g o':Nat),StC w B k kd s f nn op E B' C m c' m1 c1 m2 c2 g o'/\¬G g/\StmC b F pv cst w G om (.agg #[i_ kd,.string s,.string f,i_ nn,i_ op,.slice E m c',.slice B' m1 c1,.slice C m2 c2])) :
  LsC b F pv (nb*cst) w G om B nb cb:=fun w0 G0 qs N o hg u0 hN ho=>by
 have H:=q_ hg;have U:=q_ u0;have HK:=q_ hk;clear hg u0 hk;go_enter func111,ntmps111;go_upto_region 1 with fail;go_loopw [8] (fun i wr=>∃ (k:Nat) (G':NP) (qs':List Nat) (N':Nat),k<=nb/\i=i_ k/\Hid (GC b F pv qs' N' N' o G' wr)/\Hid (Up w0 G0 wr G')/\Hid (∀ q ∈ qs,q ∈ qs')/\N<=N'/\N'<=N+k*cst) (fun i _=>nb - (intOf i).toNat)
 case atStart=>exact ⟨0,G0,qs,N,o_,rfl,H,q_ (Up.refl _ _),q_ (fun _ h=>h),l_,o_⟩
 obtain ⟨k,G1,A4,N1,Ac,rfl,H1,U1,Q1,A8,A6⟩:=hrel;by_cases hlt:k<nb
 ·have A1:(k:Int)<(nb:Int):=by omega
  have A7:(k+1)*cst<=nb*cst:=Nat.mul_le_mul_right _ hlt;have A2:(k+1)*cst=k*cst+cst:=Nat.succ_mul _ _;obtain ⟨kd,s,f,nn,op,E,B',C,m,c',m1,c1,m2,c2,g,o',A3,hg,hC⟩:=HK.o k hlt;obtain ⟨rfl,Ab,k0,k1,k2,k3,k4,k5,k6,k7⟩:=A3.go (U.o.trans U1.o) hg;have A5:=q_ hC;have A0:Below wr wr (wr.alloc (.cells #[i_ kd,.string s,.string f,i_ nn,i_ op,.slice E m c',.slice B' m1 c1,.slice C m2 c2] 212)):=(b_).alloc (l_) _;have HA:=q_ (H1.o.below A0);have UA:=q_ (U1.o.trans (Up.of_below A0));clear A3 hC A0;go_wp2_with fail;refine (A5.o _ G1 A4 N1 o HA.o (U.o.trans UA.o) o_ ho).mono ?_;rintro e W2 ⟨rfl,G2,Aa,N2,H2,A9,Ae,Ad,V2⟩;clear k0 k1 k2 k3 k4 k5 k6 k7;go_wp2;go_roundw
  case rel=>exact ⟨k+1,G2,Aa,N2,o_,by go_num,H2,q_ (UA.o.trans V2.o),q_ (fun q hq=>A9 q (Q1.o q hq)),o_,o_⟩
  case measure=>simp [intOf];omega
 have A1:¬(k:Int)<(nb:Int):=by omega
 obtain rfl:k=nb:=by omega
 go_wp2_with fail;refine end0 rfl rfl ?_;exact ⟨rfl,G1,A4,N1,H1,Q1.o,A8,A6,U1⟩
theorem list_nil (b F:Nat) (pv:Nat->Value) (om:Nat) (w:World) (G:NP) (B:OA) (cb:Nat):LsC b F pv 0 w G om B 0 cb:=by
 have:=list_step b F pv 0 om w G B 0 cb o_ (fun k hk=>o_)
 simpa using this
theorem LsC.more {b F cst cst' om nb cb:Nat} {pv:Nat->Value} {w:World} {G:NP} {B:OA} (h:LsC b F pv cst w G om B nb cb) (hc:cst<=cst'):LsC b F pv cst' w G om B nb cb:=fun w2 G2 qs N o hg u2 hN ho=>(h w2 G2 qs N o hg u2 o_ ho).mono (fun e w' hr=>⟨hr.1,hr.2.more hc⟩)
def cl:Nat->Nat
 | 0=>20*800
 | d+1=>20*(800+2*cl d)
structure PgT (w:World) (G:NP) (dp:Nat) (PA:OA) (pn pc:Nat):Prop where
 sl:SlT w G 20 (cy_ dp) PA pn pc
 nm:∀ s,s=nameF∨s=nameG->∃ q,q<pn/\nameAt w PA q s
theorem PgT.go {w w':World} {G G':NP} {dp:Nat} {PA:OA} {pn pc:Nat} (h:PgT w G dp PA pn pc) (u:Up w G w' G'):PgT w' G' dp PA pn pc:=by
 refine ⟨h.sl.go u (l_),fun s hs=>?_⟩;obtain ⟨q,hq,g,o,e1,e2⟩:=h.nm s hs;obtain ⟨fs,P,np,cp,FB,nb,cb,gf,A2,A0,_,_,_,A1⟩:=h.sl.fn hq;have e3:=A0.hA;rw [e1] at e3;injection e3 with e3;injection e3 with e4 e5;subst e4 e5;exact ⟨q,hq,g,o,e1,(u.kp.cell A0.lt A1).trans e2⟩
theorem list_g (b pn:Nat) (pv:Nat->Value) (PA:OA) (pc dp:Nat) (hpv:pv 0=.slice PA pn pc):∀ (d:Nat) (B:OA) (nb cb:Nat) (w:World) (G:NP),d<=700->PgT w G dp PA pn pc->SlP w G 20 pS (al_ d) B nb cb->LsC b pn pv (cl d) w G (800 - d) B nb cb
 | 0,B,nb,cb,w,G,_,hpg,hl=>by
  have A1:=hl.sl.le;refine (list_step b pn _ 800 800 w G B nb cb A1 (fun k hk=>?_)).more (by have:nb*800<=20*800:=Nat.mul_le_mul_right _ A1;exact this);obtain ⟨kd,s,f,nn,op,E,B',C,m,c',m1,c1,m2,c2,g,o',h1,h2,h3,h4,h5,h6,h7,h8,_⟩:=hl.st hk;obtain ⟨rfl,rfl⟩:=h8 rfl;refine ⟨kd,s,f,nn,op,E,B',C,m,c',0,c1,0,c2,g,o',h1,h4,fun w' G' A4 N' o hg u hN ho=>?_⟩;have A0:=hpg.go u;have hE:=h2.go u (l_);refine (stmt_step b pn pv PA pn pc dp hpv o 0 A4 N' G' w' hg kd s f nn op E B' C m c' 0 c1 0 c2 o_ o_ h2.sl.le rfl h5 h6 h7 A0.sl A0.nm (fun k hk=>?_) (list_nil _ _ _ _ _ _ _ _) (list_nil _ _ _ _ _ _ _ _)).mono (fun e w2 hr=>⟨hr.1,hr.2.more o_⟩);obtain ⟨A2,n',s',A3,A',m',c',g',o2,e1,e2,e3,e4⟩:=hE.ex hk;exact ⟨A2,n',s',A3,A',m',c',g',o2,e1,e2,expr_g b pn _ o dE _ w' G' e3 e4⟩
 | d+1,B,nb,cb,w,G,hd,hpg,hl=>by
  have A1:=hl.sl.le;refine (list_step b pn _ (800+2*cl d) (800 - (d+1)) w G B nb cb A1 (fun k hk=>?_)).more (by have:nb*(800+2*cl d)<=20*(800+2*cl d):=Nat.mul_le_mul_right _ A1;exact this);obtain ⟨kd,s,f,nn,op,E,B',C,m,c',m1,c1,m2,c2,g,o',h1,h2,h3,h4,h5,h6,h7,_,h9⟩:=hl.st hk;obtain ⟨p1,p2⟩:=h9 d rfl;refine ⟨kd,s,f,nn,op,E,B',C,m,c',m1,c1,m2,c2,g,o',h1,h4,fun w' G' A4 N' o hg u hN ho=>?_⟩;have A0:=hpg.go u;have hE:=h2.go u (l_);refine stmt_step b pn pv PA pn pc dp hpv o (cl d) A4 N' G' w' hg kd s f nn op E B' C m c' m1 c1 m2 c2 o_ hN h2.sl.le rfl h5 h6 h7 A0.sl A0.nm (fun k hk=>?_) ((list_g b pn pv PA pc dp hpv d B' m1 c1 w' G' o_ A0 (p1.go u (l_))).low o_) ((list_g b pn pv PA pc dp hpv d C m2 c2 w' G' o_ A0 (p2.go u (l_))).low o_);obtain ⟨A2,n',s',A3,A',m',c',g',o2,e1,e2,e3,e4⟩:=hE.ex hk;exact ⟨A2,n',s',A3,A',m',c',g',o2,e1,e2,expr_g b pn _ o dE _ w' G' e3 e4⟩
end Go.Proofs.YtfolidlmgfhkiaaGreat
namespace Go.Proofs.YtfolidlmgfhkiaaGreat
open Go.RowKit
def Dd (d:Nat) (w w':World):Prop:=(w':Nat)=w/\Kp (fun k=>k=d) w w'
theorem Dd.refl (d:Nat) (w:World):Dd d w w:=⟨rfl,Kp.refl _ _⟩
theorem Dd.trans {d:Nat} {w w' w2:World} (h:Dd d w w') (h2:Dd d w' w2):Dd d w w2:=⟨h2.1.trans h.1,h.2.trans h2.2⟩
theorem Fr.dice {X Y:NP} {L:List LV} {C:Nat->VL} {w0 w:World} {d:Nat} (h:Fr X (fun _=>False) w0 L Y C w) (hD:Dice w0 d):Dice w d:=hD.below h.below
theorem Dice.back {w0 w:World} {d:Nat} (h:Dice w d) (hk:Kp (fun _=>False) w0 w) (hd:d<w0):Dice w0 d:=by
 obtain ⟨_,S,sn,sc,a,h0,h1,h2,h3,h4,h5⟩:=h;refine ⟨hd,S,sn,sc,a,(hk.cell hd (fun h=>h)).symm.trans h0,(hk.cell hd (fun h=>h)).symm.trans h1,(hk.frozen hd (fun h=>h)).symm.trans h2,h3,h4,fun i hi=>?_⟩;obtain ⟨sb,so,x,e,h6,h7,h8,h9⟩:=h5 i hi;exact ⟨sb,so,x,e,h6,h7,h8,(hk.cell o_ (fun h=>h)).symm.trans h9⟩
theorem Fr.kpd {X Y:NP} {L:List LV} {C:Nat->VL} {w0 w w':World} {d:Nat} (h:Fr X (fun _=>False) w0 L Y C w) (hd:d<w0) (hX:X d) (hk:w.grownBy w' (some d)) :
  (∃ w0',Dd d w0 w0'/\Fr X (fun _=>False) w0' L Y C w')/\Up w Y w' Y:=by
 have A0:Kp (fun k=>k=d) w w':=(Kp.refl _ w).grown hk (fun k hk=>by injection hk with hk;exact .inl hk.symm);have A4:Kp Y w w':=A0.mono (fun k _ hk=>by subst hk;exact h.sub _ hX);have A2:Up w Y w' Y:=⟨A4,fun _ _ h=>h⟩;have A3:d<w:=lt_ hd h.kp.size;have A1:d<w':=lt_ A3 hk.size;have hb:∀ p ∈ L,p.b≠d:=fun p hp=>by
  rcases (h.blk p hp).2.1 with h1 | h1
  ·omega
  exact h1.elim
 refine ⟨⟨{ w0 with heap:=w0.heap.setIfInBounds d w'.heap[d] },⟨by simp,⟨rfl,rfl,rfl,by simp,fun k hk hx=>by simp only [Array.getElem?_setIfInBounds];rw [if_neg (fun e=>hx e.symm)]⟩⟩,⟨?_,h.sub,fun k hk=>lt_ (h.lt k hk) A0.size,fun p hp=>?_,fun p hp j t hj ho=>?_,fun p hp j t et hj ho=>?_,h.far,h.nd⟩⟩,A2⟩
 ·refine ⟨A0.os.trans h.kp.os,A0.tape.trans h.kp.tape,A0.output.trans h.kp.output,by simpa using Nat.le_trans h.kp.size A0.size,fun k hk hx=>?_⟩;have hk:k<w0:=by simpa using hk
  show _=(w0.heap.setIfInBounds d w'.heap[d])[k]?
  rw [Array.getElem?_setIfInBounds];by_cases e:d=k
  ·subst e;rw [if_pos rfl,if_pos hk];exact Array.getElem?_eq_getElem A1
  rw [if_neg e];exact (A0.block k (lt_ hk h.kp.size) (fun e2=>e e2.symm)).trans (h.kp.block k hk (fun h=>h))
 ·obtain ⟨h1,h2,h3,h4⟩:=h.blk p hp;exact ⟨h1,by simpa using h2,h3.kp A0 (hb p hp),h4⟩
 ·obtain ⟨v,h1,h2⟩:=h.val p hp j t hj ho;exact ⟨v,h1,h2.go A2 (l_)⟩
 obtain ⟨e,A,n,c,h1,h2,h3,h4,h5⟩:=h.row p hp j t et hj ho;refine ⟨e,A,n,c,h1,h2,h3,h4.stay hk (fun k hk=>?_),fun g hg=>⟨(h5 g hg).1,by simpa using (h5 g hg).2.1,(h5 g hg).2.2⟩⟩;injection hk with hk;subst hk;refine ⟨h.sub _ hX,fun e=>?_⟩;rcases (h5 _ e).2.1 with h6 | h6
 ·omega
 exact h6.elim
structure Rd (d:Nat) (w w':World):Prop where
 dice:Dice w' d
 kp:Kp (fun k=>k=d) w w'
theorem Rd.thrown {d:Nat} {w w':World} (h:Rd d w w'):cx_ w d w':=⟨h.dice,⟨h.kp.os,h.kp.tape,h.kp.output,h.kp.size,fun k hk hr=>h.kp.block k hk (fun e=>hr (by rw [e]))⟩⟩
theorem Rd.trans {d:Nat} {w w' w2:World} (h:Rd d w w') (h2:Rd d w' w2):Rd d w w2:=⟨h2.dice,h.kp.trans h2.kp⟩
theorem Rd.below {d:Nat} {w w' w2:World} (h:Rd d w w') (hb:Below w' w' w2):Rd d w w2:=⟨h.dice.below hb,h.kp.bc_ hb⟩
def Fs (d:Nat) (X:NP) (w:World) (L:List LV) (Y:NP) (C:Nat->VL) (w':World):Prop:=∃ w0,Dd d w w0/\Dice w0 d/\Fr X (fun _=>False) w0 L Y C w'
theorem Fr.fs {X Y:NP} {L:List LV} {C:Nat->VL} {w w':World} {d:Nat} (h:Fr X (fun _=>False) w L Y C w') (hD:Dice w d):Fs d X w L Y C w':=⟨w,Dd.refl d w,hD,h⟩
section
variable {X Y:NP} {L:List LV} {C:Nat->VL} {w w1 w2:World} {d:Nat}
theorem Fs.dice (h:Fs d X w L Y C w1):Dice w1 d:=by
 obtain ⟨w0,h1,h2,h3⟩:=h;exact h3.dice h2
theorem Fs.pick (h:Fs d X w L Y C w1) (hX:X d) (ht:cx_ w1 d w2):Fs d X w L Y C w2/\Up w1 Y w2 Y:=by
 obtain ⟨w0,h1,h2,h3⟩:=h;obtain ⟨⟨A0,h4,h5⟩,h6⟩:=h3.kpd h2.lt hX ht.grown;refine ⟨⟨A0,h1.trans h4,ht.dice.back h5.kp ?_,h5⟩,h6⟩;rw [h4.1];exact h2.lt
theorem Fs.rd (h:Fs d X w L Y C w1) (hX:X d) (ht:Rd d w1 w2):Fs d X w L Y C w2/\Up w1 Y w2 Y:=h.pick hX ht.thrown
theorem Fs.end_ (h:Fs d X w L Y C w1):Rd d w w1:=by
 obtain ⟨w0,h1,h2,h3⟩:=h;exact ⟨h3.dice h2,h1.2.trans (h3.kp.mono (fun k _ hk=>hk.elim))⟩
theorem Fs.map {L':List LV} {Y':NP} {C':Nat->VL} (h:Fs d X w L Y C w1) (f:∀ w0,w0.heap.size=w.heap.size->Fr X (fun _=>False) w0 L Y C w1->Fr X (fun _=>False) w0 L' Y' C' w2):Fs d X w L' Y' C' w2:=by
 obtain ⟨w0,h1,h2,h3⟩:=h;exact ⟨w0,h1,h2,f w0 h1.1 h3⟩
theorem Fs.call (h:Fs d X w L Y C w1) (hb:Below w1.heap.size w1 w2):Fs d X w L Y C w2:=h.map (fun _ _ f=>f.call hb)
end
end Go.Proofs.YtfolidlmgfhkiaaGreat
