/- Lemmas: each says what a function of the program leaves, under the conditions that it states. -/
import Derived.Test.YtfolidlmgfhkiaaGreatZ21
set_option linter.unusedVariables false
set_option linter.unusedSimpArgs false
set_option maxRecDepth 100000
set_option maxHeartbeats 8000000
namespace Go.Proofs.YtfolidlmgfhkiaaGreat
open Go.RowKit Go.Proofs.Tryz
theorem stb_new {w:World} {kd:Int} {s f:ByteArray} {n op:Int} {A B C:OA} {m c m1 c1 m2 c2:Nat} {V:World} (B0:Bx V w [i_ kd,.string s,.string f,i_ n,i_ op,.slice A m c,.slice B m1 c1,.slice C m2 c2]):∀ w',Below V V w'->StB w' w kd s f n op A B C m c m1 c1 m2 c2:=fun w' hb =>
 ⟨(B0.below hb).2.1 0 _ rfl,(B0.below hb).2.1 1 _ rfl,(B0.below hb).2.1 2 _ rfl,(B0.below hb).2.1 3 _ rfl,(B0.below hb).2.1 4 _ rfl,(B0.below hb).2.1 5 _ rfl,(B0.below hb).2.1 6 _ rfl,(B0.below hb).2.1 7 _ rfl⟩
theorem stmts_step (X:NP) (d:Nat) (A:OA) (n c:Nat) (VA:OA) (nv cv Kv:Nat) (hKv:Kv<=900000000) (L:OA) (nl cl:Nat) (hnl:nl<=20) (w:World) (h:SlT w X 20 (cy_ d) A n c) (hv:SlT w nX Kv [.txt] VA nv cv)
  (hk:∀ k,k<nl->∃ (kd:Int) (s f:ByteArray) (nn op:Int) (E B C:OA) (m c' m1 c1 m2 c2 g o:Nat),StC w L k kd s f nn op E B C m c' m1 c1 m2 c2 g o/\SlP w X 20 pE (ay_ dE) E m c' ∧
   ∀ w':World,Below w w w'->(Calls prog 162 #[.agg #[.slice A n c],.slice VA nv cv,.slice B m1 c1] w' fun e w''=>RI e/\Below w' w' w'')/\Calls prog 162 #[.agg #[.slice A n c],.slice VA nv cv,.slice C m2 c2] w' fun e w''=>RI e/\Below w' w' w'') :
  Calls prog 162 #[.agg #[.slice A n c],.slice VA nv cv,.slice L nl cl] w fun e w'=>RI e/\Below w w w':=by
 obtain ⟨W,hW,Aj,AB,B0⟩:=af_ w [.slice A n c] 136;have A5:=h_ (∀ w',Below W W w'->w'.cell? (a_ w)=some (.slice A n c)) (fun w' hb=>(B0.below hb).2.1 0 _ rfl);have HW:=q_ Aj;have H:=q_ h;have HV:=q_ hv;have HK:=q_ hk;have AL:=h.le;have AO:=hv.le;clear B0 Aj h hv hk;go_enter func162,ntmps162;go_upto_region 2 with fail;rw [←hW];clear hW;go_loopw [18] (fun i wr=>∃ k:Nat,k<=nl/\i=i_ k/\Hid (Below W W wr)) (fun i _=>nl - (intOf i).toNat)
 case atStart=>exact ⟨0,o_,rfl,q_ (b_)⟩
 obtain ⟨k,AJ,rfl,HR⟩:=hrel;have A6:=q_ (HW.o.trans (HR.o.mono HW.o.size));have Ay:(w:Nat)<=wr:=A6.o.size;by_cases hlt:k<nl
 ·have Ab:(k:Int)<(nl:Int):=by omega
  obtain ⟨kd,s,f,nn,op,E,B,C,m,c',m1,c1,m2,c2,g,o,Am,hE,A2⟩:=HK.o k hlt;obtain ⟨rfl,hg,k0,k1,k2,k3,k4,k5,k6,k7⟩:=Am.up A6.o;obtain ⟨V,hV,A8,AA,B0⟩:=af_ wr [i_ kd,.string s,.string f,i_ nn,i_ op,.slice E m c',.slice B m1 c1,.slice C m2 c2] 212;have A0:=q_ (A6.o.trans (A8.mono Ay));have A3:=q_ (HR.o.trans (A8.mono HR.o.size));have KC:=q_ (stb_new B0);have HE:=q_ hE;have AK:=hE.sl.le;have Ad:=q_ A2;clear B0 A8 Am hE A2;go_upto_region 4 with fail;rw [←hV];clear hV k0 k1 k2 k3 k4 k5 k6 k7;obtain ⟨x0,x1,x2,x3,x4,x5,x6,x7⟩:=KC.o V (b_);go_upto_region 5 with fail;clear x0 x1 x2 x3 x4 x5 x6 x7;go_loopw [25] (fun i wy=>∃ j:Nat,j<=m/\i=i_ j/\Hid (Below V V wy)) (fun i _=>m - (intOf i).toNat)
  case atStart=>exact ⟨0,o_,rfl,q_ (b_)⟩
  rename World=>wy
  obtain ⟨j,AI,rfl,HY⟩:=hrel;have A7:=q_ (A0.o.trans (HY.o.mono A0.o.size));have Ao:(w:Nat)<=wy:=A7.o.size;have Ax:(V:Nat)<=wy:=HY.o.size;by_cases hlj:j<m
  ·have A9:(j:Int)<(m:Int):=by omega
   obtain ⟨ge,oe,us,rfl,Al,AC,hu,Av,hc⟩:=HE.o.el hlj;obtain ⟨Ap,n',s',Aq,A',m',Af,rfl,_,_,_⟩:=Av;rw [dz_] at hc;have A1:∀ j,wy.cell? (f_ ge j)=w.cell? (f_ ge j):=fun j=>belc A7.o Al
   have AH:ge<wy:=lt_ Al Ao;have k0:wy.cell? ⟨ge,oe+j*5,none⟩=some (i_ Ap):=(A1 _).trans (hc 0 _ rfl);have k1:wy.cell? ⟨ge,oe+j*5+1,none⟩=some (i_ n'):=(A1 _).trans (hc 1 _ rfl);have k2:wy.cell? ⟨ge,oe+j*5+2,none⟩=some (.string s'):=(A1 _).trans (hc 2 _ rfl);have k3:wy.cell? ⟨ge,oe+j*5+3,none⟩=some (i_ Aq):=(A1 _).trans (hc 3 _ rfl);have k4:wy.cell? ⟨ge,oe+j*5+4,none⟩=some (.slice A' m' Af):=(A1 _).trans (hc 4 _ rfl);have HU:=q_ (hu.up (Kp.of_below (A7.o.alloc Ao (.cells #[i_ Ap,i_ n',.string s',i_ Aq,.slice A' m' Af] 209))) (l_));clear A1 hc hu;go_wp2_with fail;refine (Reads_any X dE _ _ d_ HU.o).mono ?_;rintro e W3 ⟨⟨RA,rn,rc,rfl,hR⟩,A4⟩;have H3:=h_ (Below V V W3) ((HY.o.alloc Ax _).trans (A4.mono (by simp;omega)));have AN:=hR.o.le;clear A4 k0 k1 k2 k3 k4;go_upto_region 8 with fail;go_loopw [32] (fun i wz=>∃ q:Nat,q<=rn/\i=i_ q/\Hid (Below W3 W3 wz)) (fun i _=>rn - (intOf i).toNat)
   case atStart=>exact ⟨0,o_,rfl,q_ (b_)⟩
   rename World=>wz
   obtain ⟨q,Aw,rfl,HZ⟩:=hrel;have Ae:=q_ (H3.o.trans (HZ.o.mono H3.o.size));have As:=q_ (A0.o.trans (Ae.o.mono A0.o.size));have AE:cr dE<=900000000:=by decide
   by_cases hlq:q<rn
   ·have Aa:(q:Int)<(rn:Int):=by omega
    obtain ⟨gr,Az,rfl,AG,AD,vs,An,hm⟩:=(hR.o.up (Kp.of_below HZ.o) (l_)).mt hlq;obtain ⟨u,hu,ht⟩:=An.2 0 .txt rfl;obtain ⟨t,rfl⟩:=ht.str;have y0:wz.cell? ⟨gr,Az+q,none⟩=some (.string t):=by have:=hm 0 _ hu;simpa using this
    clear An hm hu ht;go_wp2_with fail;refine (Has_any VA nv cv t nX Kv wz (HV.o.up (Kp.of_below As.o) (l_)) hKv).mono ?_;rintro e W4 ⟨⟨b,rfl⟩,Ag⟩;have H4:=q_ (HZ.o.trans (Ag.mono HZ.o.size));clear Ag y0;cases b
    case false =>
     go_wp2;go_ret;exact ⟨⟨_,rfl⟩,A0.o.trans ((H3.o.trans (H4.o.mono H3.o.size)).mono A0.o.size)⟩
    go_wp2;go_roundw
    case rel=>exact ⟨q+1,o_,by go_num,H4⟩
    case measure=>simp [intOf];omega
   have Aa:¬(q:Int)<(rn:Int):=by omega
   go_wp2;go_roundw
   case rel=>exact ⟨j+1,o_,by go_num,Ae⟩
   case measure=>simp [intOf];omega
  have A9:¬(j:Int)<(m:Int):=by omega
  obtain ⟨x0,x1,x2,x3,x4,x5,x6,x7⟩:=KC.o wy HY.o;have p0:=A5.o wy (A3.o.trans (HY.o.mono A3.o.size));go_upto_if 44 with fail;go_cut [] (fun wz=>Hid (Below V V wz))
  case first =>
   by_cases hkd:kd=3
   case neg =>
    go_wp2;go_meet;exact HY
   subst hkd;go_wp2_with fail;refine (Index_t X 20 d_ d A n c f wy (H.o.up (Kp.of_below A7.o) (l_))).mono ?_;rintro e W3 ⟨⟨r,rfl,hr,_⟩,A4⟩;have H3:=q_ (HY.o.trans (A4.mono HY.o.size));clear x0 x1 x2 x3 x4 x5 x6 x7 p0 A4;rcases hr with rfl | ⟨q,rfl,hq⟩
   ·go_wp2;go_ret;exact ⟨⟨_,rfl⟩,A0.o.trans (H3.o.mono A0.o.size)⟩
   obtain ⟨x0,x1,x2,x3,x4,x5,x6,x7⟩:=KC.o W3 H3.o;have p0:=A5.o W3 (A3.o.trans (H3.o.mono A3.o.size));obtain ⟨fs,P,np,cp,FB,nb,cb,gf,AP,Ak,_,hP,_,_⟩:=H.o.fn hq;obtain ⟨rfl,AF,f0,f1,f2⟩:=Ak.up (A0.o.trans (H3.o.mono A0.o.size));have Au:=hP.le;have AM:¬(q:Int)<0:=by omega
   have Aw:(q:Int)<(n:Int):=by omega
   have Ac:(np:Int)=(m:Int)∨(np:Int)≠(m:Int):=by omega
   clear Ak hP;go_upto_region 18 with fail;go_quiet (fail);rcases Ac with Ac | Ac
   ·go_wp2;all_goals first
     | (go_ret;exact ⟨⟨_,rfl⟩,A0.o.trans ((bel H3.o) |>.mono A0.o.size)⟩)
     | (go_meet;exact q_ (bel H3.o))
   go_wp2;all_goals first
    | (go_ret;exact ⟨⟨_,rfl⟩,A0.o.trans (Below.mono (B:=V) (bel H3.o) A0.o.size)⟩)
    | (go_meet;exact q_ (bel H3.o))
  rename World=>wz
  have HZ:=hcut;clear x0 x1 x2 x3 x4 x5 x6 x7 p0;obtain ⟨x0,x1,x2,x3,x4,x5,x6,x7⟩:=KC.o wz HZ.o;go_upto_region 20 with fail;go_cut [70] (fun v wq=>∃ b:Bool,v=.bool b/\Hid (Below V V wq))
  case first =>
   go_wp2_with (go_at_call 169;refine (eu_ _ _).mono ?_;rintro e w1 ⟨⟨b,rfl⟩,hb⟩;have Ar:=q_ (HZ.o.trans (hb.mono HZ.o.size)));all_goals
    go_meet;first
     | exact ⟨_,rfl,Ar⟩
     | exact ⟨_,rfl,HZ⟩
  rename World=>wq
  obtain ⟨b,rfl,HQ⟩:=hcut;clear x0 x1 x2 x3 x4 x5 x6 x7;obtain ⟨x0,x1,x2,x3,x4,x5,x6,x7⟩:=KC.o wq HQ.o;have p0:=A5.o wq (A3.o.trans (HQ.o.mono A3.o.size));cases b
  case true =>
   go_wp2;go_ret;exact ⟨⟨_,rfl⟩,A0.o.trans (HQ.o.mono A0.o.size)⟩
  case false =>
  go_wp2_with fail;refine (Ad.o wq (A0.o.trans (HQ.o.mono A0.o.size))).1.mono ?_;rintro e W5 ⟨⟨r1,rfl⟩,Ah⟩;have H5:=q_ (HQ.o.trans (Ah.mono HQ.o.size));clear x0 x1 x2 x3 x4 x5 x6 x7 p0 Ah;obtain ⟨x0,x1,x2,x3,x4,x5,x6,x7⟩:=KC.o W5 H5.o;have p0:=A5.o W5 (A3.o.trans (H5.o.mono A3.o.size));by_cases hr1:r1=0
  case neg =>
   go_wp2;go_ret;exact ⟨⟨_,rfl⟩,A0.o.trans (H5.o.mono A0.o.size)⟩
  case pos =>
  subst hr1;go_wp2_with fail;refine (Ad.o W5 (A0.o.trans (H5.o.mono A0.o.size))).2.mono ?_;rintro e W6 ⟨⟨r2,rfl⟩,Ai⟩;have H6:=q_ (H5.o.trans (Ai.mono H5.o.size));clear x0 x1 x2 x3 x4 x5 x6 x7 p0 Ai;by_cases hr2:r2=0
  case neg =>
   go_wp2;go_ret;exact ⟨⟨_,rfl⟩,A0.o.trans (H6.o.mono A0.o.size)⟩
  case pos =>
  subst hr2;go_wp2;go_roundw
  case rel=>exact ⟨k+1,o_,by go_num,q_ (A3.o.trans (H6.o.mono A3.o.size))⟩
  case measure=>simp [intOf];omega
 have Ab:¬(k:Int)<(nl:Int):=by omega
 go_wp2;go_ret;exact ⟨⟨_,rfl⟩,A6.o⟩
theorem stmts_t (X:NP) (d:Nat) (A:OA) (n c:Nat) (VA:OA) (nv cv Kv:Nat) (hKv:Kv<=900000000):∀ (dd:Nat) (L:OA) (nl cl:Nat) (w:World),SlT w X 20 (cy_ d) A n c->SlT w nX Kv [.txt] VA nv cv->SlP w X 20 pS (al_ dd) L nl cl →
  Calls prog 162 #[.agg #[.slice A n c],.slice VA nv cv,.slice L nl cl] w fun e w'=>RI e/\Below w w w'
 | 0,L,nl,cl,w,h,hv,hl=>by
  refine stmts_step X d A n c VA nv cv Kv hKv L nl cl hl.sl.le w h hv (fun k hk=>?_);obtain ⟨kd,s,f,nn,op,E,B,C,m,c',m1,c1,m2,c2,g,o,h1,h2,h3,_,_,_,_,h0,_⟩:=hl.st hk;obtain ⟨rfl,rfl⟩:=h0 rfl;exact ⟨kd,s,f,nn,op,E,B,C,m,c',0,c1,0,c2,g,o,h1,h2,fun w' hb =>
   ⟨stmts_step X d A n c VA nv cv Kv hKv B 0 c1 o_ w' (h.up (Kp.of_below hb) (l_)) (hv.up (Kp.of_below hb) (l_)) (fun k hk=>o_),stmts_step X d A n c VA nv cv Kv hKv C 0 c2 o_ w' (h.up (Kp.of_below hb) (l_)) (hv.up (Kp.of_below hb) (l_)) (fun k hk=>o_)⟩⟩
 | dd+1,L,nl,cl,w,h,hv,hl=>by
  refine stmts_step X d A n c VA nv cv Kv hKv L nl cl hl.sl.le w h hv (fun k hk=>?_);obtain ⟨kd,s,f,nn,op,E,B,C,m,c',m1,c1,m2,c2,g,o,h1,h2,h3,_,_,_,_,_,hd⟩:=hl.st hk;exact ⟨kd,s,f,nn,op,E,B,C,m,c',m1,c1,m2,c2,g,o,h1,h2,fun w' hb =>
   ⟨stmts_t X d A n c VA nv cv Kv hKv dd B m1 c1 w' (h.up (Kp.of_below hb) (l_)) (hv.up (Kp.of_below hb) (l_)) ((hd dd rfl).1.below hb),stmts_t X d A n c VA nv cv Kv hKv dd C m2 c2 w' (h.up (Kp.of_below hb) (l_)) (hv.up (Kp.of_below hb) (l_)) ((hd dd rfl).2.below hb)⟩⟩
def LsC (b F:Nat) (pv:Nat->Value) (cst:Nat) (w:World) (G:NP) (om:Nat) (B:OA) (nb cb:Nat):Prop:=∀ (w':World) (G':NP) (qs':List Nat) (N' o:Nat),GC b F pv qs' N' N' o G' w'->Up w G w' G'->N'+cst<=10000000000->o<=om->Calls prog 111 #[.pointer (some (a_ b)),.slice B nb cb] w' fun e w''=>e=.returned (.tuple #[])/\RG b F pv qs' N' o G' w' cst w''
theorem LsC.go {b F cst om nb cb:Nat} {pv:Nat->Value} {w w':World} {G G':NP} {B:OA} (h:LsC b F pv cst w G om B nb cb) (u:Up w G w' G'):LsC b F pv cst w' G' om B nb cb:=fun w2 G2 qs N o hg u2=>h w2 G2 qs N o hg (u.trans u2)
theorem stb_up {w W:World} {G:NP} {kd:Int} {s f:ByteArray} {n op:Int} {A B C:OA} {m c m1 c1 m2 c2:Nat} (B0:Bx W w [i_ kd,.string s,.string f,i_ n,i_ op,.slice A m c,.slice B m1 c1,.slice C m2 c2]) (hz:(w:Nat)<W) (hnG:¬G w):∀ (w':World) (G':NP),Up W G w' G'->StB w' w kd s f n op A B C m c m1 c1 m2 c2:=fun w' G' u=>by
 have hc:∀ j,w'.cell? (f_ w j)=W.cell? (f_ w j):=fun j=>u.kp.cell hz hnG
 exact ⟨(hc _).trans (B0.2.1 0 _ rfl),(hc _).trans (B0.2.1 1 _ rfl),(hc _).trans (B0.2.1 2 _ rfl),(hc _).trans (B0.2.1 3 _ rfl),(hc _).trans (B0.2.1 4 _ rfl),(hc _).trans (B0.2.1 5 _ rfl),(hc _).trans (B0.2.1 6 _ rfl),(hc _).trans (B0.2.1 7 _ rfl)⟩
theorem pl_lit {b F N o:Nat} {pv:Nat->Value} {qs:List Nat} {G:NP} {w:World} (h:GC b F pv qs N N o G w) (i:Nat) (hi:i<N):Pl (w.alloc (.cells #[i_ (i:Int)] 3)) b N (some (a_ w)) 1:=fun j hj=>by
 obtain rfl:j=0:=by omega
 refine ⟨w,0,i,rfl,by simp,by rw [aj_ _ _ _ _ _ rfl];rfl,hi,fun g' M c' hc e=>?_⟩;obtain ⟨A,n,c,A0,_,_,hG,_⟩:=h.own (j:=1) rfl rfl;rw [ak_ _ _ _ _ h.blt,A0] at hc;injection hc with hc;injection hc with q1 q2 q3;subst q1;have h2:g'<w:=h.lt _ (hG _ rfl);have h3:w=g':=e;omega
theorem loop6_g (b F:Nat) (pv:Nat->Value) (o cb:Nat) (qs:List Nat) (N:Nat) (G:NP) (w:World) (h:GC b F pv qs N N o G w) (s f:ByteArray) (n op:Int) (E B C:OA) (m c m1 c1 m2 c2:Nat) (ho:o<=900) (hN:N+(90+cb)<=10000000000) (hm:1<=m)
  (hk:∀ k,k<m->∃ (kd' n':Int) (s':ByteArray) (op':Int) (A':OA) (m' c' g o':Nat),ExE w E k kd' n' s' op' A' m' c' g o'/\¬G g/\ExC b F pv o 31 w G (.agg #[i_ kd',i_ n',.string s',i_ op',.slice A' m' c'])) (hb:LsC b F pv cb w G o B m1 c1) :
  Calls prog 191 #[.pointer (some (a_ b)),.agg #[i_ 6,.string s,.string f,i_ n,i_ op,.slice E m c,.slice B m1 c1,.slice C m2 c2]] w fun e w'=>e=.returned (.tuple #[])/\RG b F pv qs N o G w (90+cb) w':=by
 obtain ⟨As,Av,s0,Aw,A0,Au,Ak,g0,Aj,A2,Ae,A6⟩:=hk 0 o_;have Ac:=A2.hA;subst Ac;have Aa:=q_ A2;have A9:=q_ A6;have Al:(0:Int)<(m:Int):=by omega
 clear A2 A6;obtain ⟨W,hW,A3,Ad,B0⟩:=af_ w [i_ 6,.string s,.string f,i_ n,i_ op,.slice (some ⟨g0,Aj,none⟩) m c,.slice B m1 c1,.slice C m2 c2] 212;have HU:=h_ (Up w G W G) (Up.of_below A3);have H:=q_ (h.below A3);have A7:¬G w:=fun hx=>Nat.lt_irrefl _ (h.lt _ hx)
 have KC:=q_ (stb_up (w:=w) (W:=W) (G:=G) B0 o_ A7);have HB:=q_ hb;obtain ⟨x0,x1,x2,x3,x4,x5,x6,x7⟩:=KC.o W G (Up.refl _ _);clear B0 A3 Ad h hk A7 hb;go_enter func191,ntmps191;go_upto_region 1 with fail;rw [←hW];clear hW;go_wp2_with fail;refine (fa_ b F pv qs N o G W H.o _).mono ?_;rintro e W1 ⟨⟨r1,rfl⟩,A1⟩;have H1:=q_ (H.o.below A1);have V1:=q_ (Up.of_below (Y:=G) A1);clear A1;have U1:=q_ ((q_ (Up.refl W G)).o.trans V1.o);clear x0 x1 x2 x3 x4 x5 x6 x7;obtain ⟨x0,x1,x2,x3,x4,x5,x6,x7⟩:=KC.o W1 G U1.o;go_wp2_with fail;refine (mark_g b F pv qs N o G W1 H1.o o_).mono ?_;rintro e W2 ⟨rfl,G2,A8,N2,H2,Ag,Ap,Am,V2⟩;have U2:=q_ (U1.o.trans V2.o);clear x0 x1 x2 x3 x4 x5 x6 x7;have q2:∀ q ∈ qs,q ∈ A8:=fun q hq=>Ag q ((fun _ h=>h) q hq)
 obtain ⟨x0,x1,x2,x3,x4,x5,x6,x7⟩:=KC.o W2 G2 U2.o;obtain ⟨_,Af,z0,z1,z2,z3,z4⟩:=Aa.o.up (HU.o.trans U2.o) Ae;simp only [Nat.zero_mul,Nat.add_zero] at z0 z1 z2 z3 z4;go_wp2_with fail;refine (A9.o W2 G2 A8 N2 _ H2.o (HU.o.trans U2.o) o_).mono ?_;rintro e W3 ⟨rfl,G3,A4,N3,H3,Ah,Aq,An,V3⟩;have U3:=q_ (U2.o.trans V3.o);clear x0 x1 x2 x3 x4 x5 x6 x7;have q3:∀ q ∈ qs,q ∈ A4:=fun q hq=>Ah q (q2 q hq)
 obtain ⟨x0,x1,x2,x3,x4,x5,x6,x7⟩:=KC.o W3 G3 U3.o;clear z0 z1 z2 z3 z4;go_wp2_with fail;refine (bq_ b F pv A4 N3 o G3 W3 H3.o o_ _ _ _ _ _).mono ?_;rintro e W4 ⟨rfl,G4,H4,V4,_,_⟩;have U4:=q_ (U3.o.trans V4.o);clear x0 x1 x2 x3 x4 x5 x6 x7;obtain ⟨x0,x1,x2,x3,x4,x5,x6,x7⟩:=KC.o W4 G4 U4.o;go_wp2_with fail;refine (HB.o W4 G4 A4 (N3+1) o H4.o (HU.o.trans U4.o) o_ o_).mono ?_;rintro e W5 ⟨rfl,G5,A5,N5,H5,Ai,Ar,Ao,V5⟩;have U5:=q_ (U4.o.trans V5.o);clear x0 x1 x2 x3 x4 x5 x6 x7;have q5:∀ q ∈ qs,q ∈ A5:=fun q hq=>Ai q (q3 q hq)
 obtain ⟨x0,x1,x2,x3,x4,x5,x6,x7⟩:=KC.o W5 G5 U5.o;go_wp2_with fail;refine (bq_ b F pv A5 N5 o G5 W5 H5.o o_ _ _ _ _ _).mono ?_;rintro e W6 ⟨rfl,G6,H6,V6,_,_⟩;have U6:=q_ (U5.o.trans V6.o);clear x0 x1 x2 x3 x4 x5 x6 x7;obtain ⟨x0,x1,x2,x3,x4,x5,x6,x7⟩:=KC.o W6 G6 U6.o;go_wp2_with fail;refine (here_g b F pv A5 (N5+1) o G6 _ (H6.o.below ((b_).alloc (l_) _)) o_ _ 1 1 o_ (pl_lit H6.o N3 o_)).mono ?_;rintro e W7 ⟨rfl,H7,Ab⟩;have V7:=q_ ((Up.of_below (Y:=G6) ((Below.refl W6 W6).alloc (l_) (.cells #[i_ ((N3:Nat):Int)] 3))).trans Ab.out);have U7:=q_ (U6.o.trans V7.o);clear x0 x1 x2 x3 x4 x5 x6 x7;obtain ⟨x0,x1,x2,x3,x4,x5,x6,x7⟩:=KC.o W7 G6 U7.o;go_wp2_with fail;refine end0 rfl rfl ?_;exact ⟨rfl,(RG.seq (k1:=90+cb) (HU.o.trans U7.o) q5 o_ o_ (RG.zero H7.o (Up.refl _ _))).more o_⟩
theorem loop5_g (b F:Nat) (pv:Nat->Value) (o cb:Nat) (qs:List Nat) (N:Nat) (G:NP) (w:World) (h:GC b F pv qs N N o G w) (s f:ByteArray) (n op:Int) (E B C:OA) (m c m1 c1 m2 c2:Nat) (ho:o<=900) (hN:N+(90+cb)<=10000000000) (hm:2<=m)
  (hk:∀ k,k<m->∃ (kd' n':Int) (s':ByteArray) (op':Int) (A':OA) (m' c' g o':Nat),ExE w E k kd' n' s' op' A' m' c' g o'/\¬G g/\ExC b F pv o 31 w G (.agg #[i_ kd',i_ n',.string s',i_ op',.slice A' m' c'])) (hb:LsC b F pv cb w G o B m1 c1) :
  Calls prog 191 #[.pointer (some (a_ b)),.agg #[i_ 5,.string s,.string f,i_ n,i_ op,.slice E m c,.slice B m1 c1,.slice C m2 c2]] w fun e w'=>e=.returned (.tuple #[])/\RG b F pv qs N o G w (90+cb) w':=by
 obtain ⟨BG,BK,s0,BN,A0,BI,Bt,g0,Br,Ag,Bh,AK⟩:=hk 0 o_;have Bf:=Ag.hA;subst Bf;have B1:=q_ Ag;have AY:=q_ AK;have Bv:(0:Int)<(m:Int):=by omega
 clear Ag AK;obtain ⟨BH,BL,s1,BO,A1,BJ,Bu,g1,BM,Ah,Bi,AL⟩:=hk 1 o_;have Ae:=Ah.hA;injection Ae with Ae;injection Ae with e1 e2 e3;subst e1 e2;have B2:=q_ Ah;have AZ:=q_ AL;have Bw:(1:Int)<(m:Int):=by omega
 clear Ah AL;obtain ⟨W,hW,Ai,Bg,B0⟩:=af_ w [i_ 5,.string s,.string f,i_ n,i_ op,.slice (some ⟨g0,Br,none⟩) m c,.slice B m1 c1,.slice C m2 c2] 212;have HU:=h_ (Up w G W G) (Up.of_below Ai);have H:=q_ (h.below Ai);have AM:¬G w:=fun hx=>Nat.lt_irrefl _ (h.lt _ hx)
 have KC:=q_ (stb_up (w:=w) (W:=W) (G:=G) B0 o_ AM);have HB:=q_ hb;obtain ⟨x0,x1,x2,x3,x4,x5,x6,x7⟩:=KC.o W G (Up.refl _ _);clear B0 Ai Bg h hk AM hb;go_enter func191,ntmps191;go_upto_region 1 with fail;rw [←hW];clear hW;go_wp2_with fail;refine (fa_ b F pv qs N o G W H.o _).mono ?_;rintro e W1 ⟨⟨r1,rfl⟩,Af⟩;have H1:=q_ (H.o.below Af);have V1:=q_ (Up.of_below (Y:=G) Af);clear Af;have U1:=q_ ((q_ (Up.refl W G)).o.trans V1.o);clear x0 x1 x2 x3 x4 x5 x6 x7;obtain ⟨x0,x1,x2,x3,x4,x5,x6,x7⟩:=KC.o W1 G U1.o;obtain ⟨_,Bj,z0,z1,z2,z3,z4⟩:=B1.o.up (HU.o.trans U1.o) Bh;simp only [Nat.zero_mul,Nat.add_zero] at z0 z1 z2 z3 z4;go_wp2_with fail;refine (AY.o W1 G qs N _ H1.o (HU.o.trans U1.o) o_).mono ?_;rintro e W2 ⟨rfl,G2,AO,N2,H2,Bn,BC,By,V2⟩;have U2:=q_ (U1.o.trans V2.o);clear x0 x1 x2 x3 x4 x5 x6 x7;have q2:∀ q ∈ qs,q ∈ AO:=fun q hq=>Bn q ((fun _ h=>h) q hq)
 obtain ⟨x0,x1,x2,x3,x4,x5,x6,x7⟩:=KC.o W2 G2 U2.o;clear z0 z1 z2 z3 z4;obtain ⟨_,Bk,z0,z1,z2,z3,z4⟩:=B2.o.up (HU.o.trans U2.o) Bi;simp only [Nat.one_mul] at z0 z1 z2 z3 z4;go_wp2_with fail;refine (AZ.o W2 G2 AO N2 _ H2.o (HU.o.trans U2.o) o_).mono ?_;rintro e W3 ⟨rfl,G3,AP,N3,H3,Bo,BD,Bz,V3⟩;have U3:=q_ (U2.o.trans V3.o);clear x0 x1 x2 x3 x4 x5 x6 x7;have q3:∀ q ∈ qs,q ∈ AP:=fun q hq=>Bo q (q2 q hq)
 obtain ⟨x0,x1,x2,x3,x4,x5,x6,x7⟩:=KC.o W3 G3 U3.o;clear z0 z1 z2 z3 z4;go_wp2_with fail;refine (more_g b F pv AP N3 o G3 W3 H3.o).mono ?_;rintro e W4 ⟨⟨r4,rfl⟩,G4,A7,N4,H4,Bp,BE,BA,V4⟩;have U4:=q_ (U3.o.trans V4.o);clear x0 x1 x2 x3 x4 x5 x6 x7;have q4:∀ q ∈ qs,q ∈ A7:=fun q hq=>Bp q (q3 q hq)
 obtain ⟨x0,x1,x2,x3,x4,x5,x6,x7⟩:=KC.o W4 G4 U4.o;go_wp2_with fail;refine (bq_ b F pv A7 N4 o G4 W4 H4.o o_ _ _ _ _ _).mono ?_;rintro e W5 ⟨rfl,G5,H5,V5,_,_⟩;have U5:=q_ (U4.o.trans V5.o);clear x0 x1 x2 x3 x4 x5 x6 x7;obtain ⟨x0,x1,x2,x3,x4,x5,x6,x7⟩:=KC.o W5 G5 U5.o;go_wp2_with fail;refine (bq_ b F pv A7 (N4+1) o G5 W5 H5.o o_ _ _ _ _ _).mono ?_;rintro e W6 ⟨rfl,G6,H6,V6,_,_⟩;have U6:=q_ (U5.o.trans V6.o);clear x0 x1 x2 x3 x4 x5 x6 x7;obtain ⟨x0,x1,x2,x3,x4,x5,x6,x7⟩:=KC.o W6 G6 U6.o;go_wp2_with fail;refine (mark_g b F pv A7 (N4+1+1) o G6 W6 H6.o o_).mono ?_;rintro e W7 ⟨rfl,G7,A5,N7,H7,Bq,BF,BB,V7⟩;have U7:=q_ (U6.o.trans V7.o);clear x0 x1 x2 x3 x4 x5 x6 x7;have q7:∀ q ∈ qs,q ∈ A5:=fun q hq=>Bq q (q4 q hq)
 obtain ⟨x0,x1,x2,x3,x4,x5,x6,x7⟩:=KC.o W7 G7 U7.o;go_wp2_with fail;refine (bq_ b F pv A5 N7 o G7 W7 H7.o o_ _ _ _ _ _).mono ?_;rintro e W8 ⟨rfl,G8,H8,V8,_,_⟩;have U8:=q_ (U7.o.trans V8.o);clear x0 x1 x2 x3 x4 x5 x6 x7;obtain ⟨x0,x1,x2,x3,x4,x5,x6,x7⟩:=KC.o W8 G8 U8.o;go_wp2_with fail;refine (bq_ b F pv A5 (N7+1) o G8 W8 H8.o o_ _ _ _ _ _).mono ?_;rintro e W9 ⟨rfl,G9,H9,V9,_,_⟩;have U9:=q_ (U8.o.trans V9.o);clear x0 x1 x2 x3 x4 x5 x6 x7;obtain ⟨x0,x1,x2,x3,x4,x5,x6,x7⟩:=KC.o W9 G9 U9.o;go_wp2_with fail;refine (bq_ b F pv A5 (N7+1+1) o G9 W9 H9.o o_ _ _ _ _ _).mono ?_;rintro e AC ⟨rfl,Al,AQ,B3,_,_⟩;have As:=q_ (U9.o.trans B3.o);clear x0 x1 x2 x3 x4 x5 x6 x7;obtain ⟨x0,x1,x2,x3,x4,x5,x6,x7⟩:=KC.o AC Al As.o;go_wp2_with fail;refine (bq_ b F pv A5 (N7+1+1+1) o Al AC AQ.o o_ _ _ _ _ _).mono ?_;rintro e AD ⟨rfl,Am,AR,B4,_,_⟩;have Aa:=q_ (As.o.trans B4.o);clear x0 x1 x2 x3 x4 x5 x6 x7;obtain ⟨x0,x1,x2,x3,x4,x5,x6,x7⟩:=KC.o AD Am Aa.o;go_wp2_with fail;refine (HB.o AD Am A5 (N7+1+1+1+1) o AR.o (HU.o.trans Aa.o) o_ o_).mono ?_;rintro e AE ⟨rfl,An,A2,A4,AS,Aj,Bm,Bl,B5⟩;have Au:=q_ (Aa.o.trans B5.o);clear x0 x1 x2 x3 x4 x5 x6 x7;have Bs:∀ q ∈ qs,q ∈ A2:=fun q hq=>Aj q (q7 q hq)
 obtain ⟨x0,x1,x2,x3,x4,x5,x6,x7⟩:=KC.o AE An Au.o;go_wp2_with fail;refine (bq_ b F pv A2 A4 o An AE AS.o o_ _ _ _ _ _).mono ?_;rintro e AF ⟨rfl,Ao,AT,B6,_,_⟩;have Av:=q_ (Au.o.trans B6.o);clear x0 x1 x2 x3 x4 x5 x6 x7;obtain ⟨x0,x1,x2,x3,x4,x5,x6,x7⟩:=KC.o AF Ao Av.o;go_wp2_with fail;refine (bq_ b F pv A2 (A4+1) o Ao AF AT.o o_ _ _ _ _ _).mono ?_;rintro e AG ⟨rfl,Ap,AU,B7,_,_⟩;have Aw:=q_ (Av.o.trans B7.o);clear x0 x1 x2 x3 x4 x5 x6 x7;obtain ⟨x0,x1,x2,x3,x4,x5,x6,x7⟩:=KC.o AG Ap Aw.o;go_wp2_with fail;refine (bq_ b F pv A2 (A4+1+1) o Ap AG AU.o o_ _ _ _ _ _).mono ?_;rintro e AH ⟨rfl,Aq,AV,B8,_,_⟩;have Ax:=q_ (Aw.o.trans B8.o);clear x0 x1 x2 x3 x4 x5 x6 x7;obtain ⟨x0,x1,x2,x3,x4,x5,x6,x7⟩:=KC.o AH Aq Ax.o;go_wp2_with fail;refine (bq_ b F pv A2 (A4+1+1+1) o Aq AH AV.o o_ _ _ _ _ _).mono ?_;rintro e AI ⟨rfl,A8,A9,B9,_,_⟩;have Ay:=q_ (Ax.o.trans B9.o);clear x0 x1 x2 x3 x4 x5 x6 x7;obtain ⟨x0,x1,x2,x3,x4,x5,x6,x7⟩:=KC.o AI A8 Ay.o;obtain ⟨v7,y7,AN⟩:=A9.o.cell (j:=7) rfl rfl;obtain ⟨m7,rfl⟩:=AN.int;have Be:=A9.o.fz 7;obtain ⟨Ad,Ak,_⟩:=A9.o.set (j:=7) (v:=i_ (wrap64 (m7 - 1))) rfl rfl (.num _);obtain ⟨AJ,A3⟩:=ex_ (AI.setCell (f_ b 7) (i_ (wrap64 (m7 - 1))));rw [←A3] at Ad Ak;have AW:=q_ Ad;have Ba:=q_ Ak;clear Ad Ak AN;go_upto_region 23 with fail;rw [←A3];clear A3 y7 Be;have Az:=q_ (Ay.o.trans Ba.o);clear x0 x1 x2 x3 x4 x5 x6 x7;obtain ⟨x0,x1,x2,x3,x4,x5,x6,x7⟩:=KC.o AJ A8 Az.o;go_wp2_with fail;refine (bq_ b F pv A2 (A4+1+1+1+1) o A8 AJ AW.o o_ _ _ _ _ _).mono ?_;rintro e Ac ⟨rfl,A6,Ar,Bb,_,_⟩;have AA:=q_ (Az.o.trans Bb.o);clear x0 x1 x2 x3 x4 x5 x6 x7;obtain ⟨x0,x1,x2,x3,x4,x5,x6,x7⟩:=KC.o Ac A6 AA.o;go_wp2_with fail;refine (here_g b F pv A2 (A4+1+1+1+1+1) o A6 _ (Ar.o.below ((b_).alloc (l_) _)) o_ _ 1 1 o_ (pl_lit Ar.o (N7+1+1+1) o_)).mono ?_;rintro e Bd ⟨rfl,AX,Ab⟩;have Bc:=q_ ((Up.of_below (Y:=A6) ((Below.refl Ac Ac).alloc (l_) (.cells #[i_ ((N7+1+1+1:Nat):Int)] 3))).trans Ab.out);have AB:=q_ (AA.o.trans Bc.o);clear x0 x1 x2 x3 x4 x5 x6 x7;obtain ⟨x0,x1,x2,x3,x4,x5,x6,x7⟩:=KC.o Bd A6 AB.o;go_wp2_with fail;refine end0 rfl rfl ?_;exact ⟨rfl,(RG.seq (k1:=90+cb) (HU.o.trans AB.o) Bs o_ o_ (RG.zero AX.o (Up.refl _ _))).more o_⟩
end Go.Proofs.YtfolidlmgfhkiaaGreat
