/- Lemmas on functions of the program, under the conditions that each states. -/
import Derived.Test.YtfolidlmgfhkiaaGreatV09
set_option linter.unusedVariables false
set_option linter.unusedSimpArgs false
set_option maxRecDepth 100000
set_option maxHeartbeats 8000000
namespace Go.Proofs.YtfolidlmgfhkiaaGreat
open Go.RowKit Go.Proofs.Tryz
structure FnC (w:World) (A:OA) (k:Nat) (s:ByteArray) (P:OA) (np cp:Nat) (B:OA) (nb cb g o:Nat):Prop where
 hA:A=some (f_ g o)
 lt:g<w
 k0:w.cell? ⟨g,o+k*3,none⟩=some (.string s)
 k1:w.cell? ⟨g,o+k*3+1,none⟩=some (.slice P np cp)
 k2:w.cell? ⟨g,o+k*3+2,none⟩=some (.slice B nb cb)
theorem FnC.up {w w':World} {A:OA} {k:Nat} {s:ByteArray} {P:OA} {np cp:Nat} {B:OA} {nb cb g o:Nat} (h:FnC w A k s P np cp B nb cb g o) (hb:Below w w w'):FnC w' A k s P np cp B nb cb g o:=by
 have hc:∀ j,w'.cell? (f_ g j)=w.cell? (f_ g j):=fun j=>belc hb h.lt
 exact ⟨h.hA,lt_ h.lt hb.size,(hc _).trans h.k0,(hc _).trans h.k1,(hc _).trans h.k2⟩
theorem SlT.fn {d:Nat} {X:NP} {w:World} {K:Nat} {A:OA} {n c k:Nat} (h:SlT w X K (cx_ d) A n c) (hk:k<n):∃ (s:ByteArray) (P:OA) (np cp:Nat) (B:OA) (nb cb g o:Nat),FnC w A k s P np cp B nb cb g o/\s.size<=100/\SlT w X K [.sat strP] P np cp/\SlP w X K pS (ah_ d) B nb cb/\¬X g:=by
 obtain ⟨g,o,rfl,hg,hX,vs,hv,hm⟩:=h.mt hk;obtain ⟨a,r1,rfl,ha,h1⟩:=hv.head;obtain ⟨b,r2,rfl,hb,h2⟩:=h1.head;obtain ⟨x,r3,rfl,hx,h3⟩:=h2.head;obtain ⟨s,rfl,hs⟩:strP a:=by cases ha;assumption
 obtain ⟨P,np,cp,rfl,hP⟩:=hb.slice;obtain ⟨B,nb,cb,rfl,hB⟩:=hx.dh_;exact ⟨s,P,np,cp,B,nb,cb,g,o,⟨rfl,hg,by have:=hm 0 _ rfl;simpa [cx_] using this,by have:=hm 1 _ rfl;simpa [cx_] using this,by have:=hm 2 _ rfl;simpa [cx_] using this⟩,hs,hP,hB,hX⟩
theorem Shaped_t (X:NP) (K:Nat) (hK:K<=900000000) (d:Nat) (A:OA) (n c:Nat) (w:World) (h:SlT w X K (cx_ d) A n c) :
  Calls prog 159 #[.agg #[.slice A n c]] w fun e w'=>RI e/\Below w w w':=by
 obtain ⟨W,hW,A9,Ag,B0⟩:=af_ w [.slice A n c] 136;have Ae:=q_ B0;have HW:=q_ A9;have H:=q_ h;have Al:=h.le;have x0:=B0.2.1 0 _ rfl;clear B0 A9 h;go_enter func159,ntmps159;go_upto_region 1 with fail;rw [<-hW];clear hW;go_cut [3] (fun v wx=>∃ b:Bool,v=.bool b/\Hid (wx=W))
 case first =>
  go_wp2;all_goals
   go_meet;exact ⟨_,rfl,q_ rfl⟩
 case rest =>
 rename World=>W1
 obtain ⟨bl,rfl,Ab⟩:=hcut;have hw:=Ab.o;subst hw;clear Ab;go_upto_region 4 with fail;clear x0;go_loopw [3,4,25] (fun b a i wr=>∃ (k:Nat) (p:Bool) (q:Int),k<=n/\b=.bool p/\a=i_ q/\i=i_ k/\Hid (Below W1 W1 wr)) (fun _ _ i _=>n - (intOf i).toNat)
 case atStart=>exact ⟨0,bl,0,o_,rfl,rfl,rfl,q_ (b_)⟩
 obtain ⟨k,p,q,Ak,rfl,rfl,rfl,HR⟩:=hrel;have A2:=q_ (HW.o.trans (HR.o.mono HW.o.size));by_cases hlt:k<n
 ·have A5:(k:Int)<(n:Int):=by omega
  obtain ⟨s,P,np,cp,B,nb,cb,g,o,Aa,hs,hP,hB,_⟩:=H.o.fn hlt;obtain ⟨rfl,hg,k0,k1,k2⟩:=Aa.up A2.o;obtain ⟨V,hV,A3,Af,B1⟩:=af_ wr [.string s,.slice P np cp,.slice B nb cb] 194;have A0:=q_ (A2.o.trans (A3.mono A2.o.size));have A6:=q_ (HR.o.trans (A3.mono HR.o.size));have KC:=h_ (∀ w',Below V V w'->(w'.cell? (a_ wr)=some (.string s)/\w'.cell? (f_ wr 1)=some (.slice P np cp)/\w'.cell? (f_ wr 2)=some (.slice B nb cb))) (fun w' hb=>⟨(B1.below hb).2.1 0 _ rfl,(B1.below hb).2.1 1 _ rfl,(B1.below hb).2.1 2 _ rfl⟩);have Ac:=hP.le;have HP:=q_ hP;have HB:=q_ hB;clear B1 A3 Aa hP hB;go_upto_region 6 with fail;rw [<-hV];clear hV k0 k1 k2;obtain ⟨x0,x1,x2⟩:=KC.o V (b_);go_wp2_with fail;refine (Name05_any s V hs).mono ?_;rintro e W2 ⟨⟨b,rfl⟩,A8⟩;have H2:=q_ A8;clear x0 x1 x2 A8;obtain ⟨x0,x1,x2⟩:=KC.o W2 H2.o;cases b
  case false =>
   go_wp2;go_ret;exact ⟨⟨_,rfl⟩,A0.o.trans (H2.o.mono A0.o.size)⟩
  case true =>
  go_upto_region 9 with fail;clear x0 x1 x2;go_loopw [36] (fun i wy=>∃ j:Nat,j<=np/\i=i_ j/\Hid (Below V V wy)) (fun i _=>np - (intOf i).toNat)
  case atStart=>exact ⟨0,o_,rfl,H2⟩
  rename World=>wy
  obtain ⟨j,Aj,rfl,HY⟩:=hrel;have A7:=q_ (A0.o.trans (HY.o.mono A0.o.size));by_cases hlj:j<np
  ·have A4:(j:Int)<(np:Int):=by omega
   obtain ⟨gp,op,rfl,Ai,Ah,us,hv,hm⟩:=(HP.o.up (Kp.of_below A7.o) (l_)).mt hlj;obtain ⟨u,hu,ht⟩:=hv.2 0 (.sat strP) rfl;obtain ⟨t,rfl,Ad⟩:strP u:=by cases ht;assumption
   have y0:wy.cell? ⟨gp,op+j,none⟩=some (.string t):=by have:=hm 0 _ hu;simpa using this
   clear hv hm hu ht;go_wp2_with fail;refine (Name05_any t wy Ad).mono ?_;rintro e W3 ⟨⟨b,rfl⟩,A1⟩;have H3:=q_ (HY.o.trans (A1.mono HY.o.size));clear A1 y0;cases b
   case false =>
    exact ux_
   go_wp2;go_roundw
   case rel=>exact ⟨j+1,o_,zb_,H3⟩
   case measure=>exact me_
  have A4:¬(j:Int)<(np:Int):=by omega
  obtain ⟨x0,x1,x2⟩:=KC.o wy HY.o;go_wp2_with fail;refine (measure_any X K hK d B nb cb wy (HB.o.below A7.o)).mono ?_;rintro e W3 ⟨⟨a1,b1,o1,rfl⟩,A1⟩;have H3:=q_ (HY.o.trans (A1.mono HY.o.size));clear x0 x1 x2 A1;obtain ⟨x0,x1,x2⟩:=KC.o W3 H3.o;cases o1
  case false =>
   exact ux_
  go_wp2;all_goals
   go_roundw
   case rel=>exact ⟨k+1,_,_,o_,rfl,rfl,zb_,q_ (A6.o.trans (H3.o.mono A6.o.size))⟩
   case measure=>exact me_
 have A5:¬(k:Int)<(n:Int):=by omega
 go_wp2;all_goals
  go_ret;exact ⟨⟨_,rfl⟩,A2.o⟩
def nameAt (w:World) (A:OA) (q:Nat) (s:ByteArray):Prop:=∃ g o,A=some (f_ g o)/\w.cell? ⟨g,o+q*3,none⟩=some (.string s)
def RIx (n:Nat) (want:Prop) (e:Ending):Prop:=∃ r:Int,e=.returned (i_ r)/\(r=-1\/∃ k:Nat,r=k/\k<n)/\Hid (want->r≠-1)
theorem Index_t (X:NP) (K:Nat) (hK:K<=900000000) (d:Nat) (A:OA) (n c:Nat) (s:ByteArray) (w:World) (h:SlT w X K (cx_ d) A n c) :
  Calls prog 160 #[.agg #[.slice A n c],.string s] w fun e w'=>RIx n (∃ q,q<n/\nameAt w A q s) e/\Below w w w':=by
 obtain ⟨W,hW,A4,A5,B0⟩:=af_ w [.slice A n c] 136;have HW:=q_ A4;have H:=q_ h;have A7:=h.le;have x0:=B0.2.1 0 _ rfl;clear B0 A4 h;go_enter func160,ntmps160;go_upto_region 2 with fail;rw [<-hW];clear hW x0;go_loopw [10] (fun i wr=>∃ k:Nat,k<=n/\i=i_ k/\Hid (Below W W wr)/\Hid ((∃ q,q<n/\nameAt w A q s)->∃ q,k<=q/\q<n/\nameAt w A q s)) (fun i _=>n - (intOf i).toNat)
 case atStart=>exact ⟨0,o_,rfl,q_ (b_),q_ (fun ⟨q,h1,h2⟩=>⟨q,Nat.zero_le _,h1,h2⟩)⟩
 obtain ⟨k,A6,rfl,HR,HN⟩:=hrel;have A0:=q_ (HW.o.trans (HR.o.mono HW.o.size));have A9:(W:Nat)<=wr:=HR.o.size;have A8:(w:Nat)<=wr:=A0.o.size;by_cases hlt:k<n
 ·have A3:(k:Int)<(n:Int):=by omega
  obtain ⟨t,P,np,cp,B,nb,cb,g,o,A2,hs,hP,hB,_⟩:=H.o.fn hlt;have HF:=q_ A2;obtain ⟨rfl,hg,k0,k1,k2⟩:=A2.up A0.o;clear A2 hP hB;have A1:(t.toList == s.toList)=true\/(t.toList == s.toList)=false:=by cases (t.toList == s.toList);exact .inr rfl;exact .inl rfl
  rcases A1 with A1 | A1
  ·go_wp2;go_ret;exact ⟨⟨_,rfl,.inr ⟨k,rfl,hlt⟩,q_ (fun _=>o_)⟩,(bel A0.o)⟩
  have HT:=q_ A1;go_wp2;go_roundw
  case rel =>
   refine ⟨k+1,o_,zb_,q_ (bel HR.o),q_ (fun hq=>?_)⟩;obtain ⟨q,h1,h2,h3⟩:=HN.o hq;refine ⟨q,?_,h2,h3⟩;rcases Nat.lt_or_ge k q with h4 | h4
   ·exact h4
   exfalso;obtain rfl:q=k:=by omega
   obtain ⟨g',o',e1,e2⟩:=h3;injection e1 with e1;injection e1 with e3 e4;subst e3 e4;rw [HF.o.k0] at e2;injection e2 with e2;injection e2 with e2;subst e2;have:=HT.o;simp at this
  case measure=>exact me_
 have A3:¬(k:Int)<(n:Int):=by omega
 go_wp2;go_ret;exact ⟨⟨_,rfl,.inl rfl,q_ (fun hq=>by obtain ⟨q,h1,h2,_⟩:=HN.o hq;omega)⟩,A0.o⟩
theorem stb_new {w:World} {kd:Int} {s f:ByteArray} {n op:Int} {A B C:OA} {m c m1 c1 m2 c2:Nat} {V:World} (B0:Bx V w [i_ kd,.string s,.string f,i_ n,i_ op,.slice A m c,.slice B m1 c1,.slice C m2 c2]):∀ w',Below V V w'->StB w' w kd s f n op A B C m c m1 c1 m2 c2:=fun w' hb =>
 ⟨(B0.below hb).2.1 0 _ rfl,(B0.below hb).2.1 1 _ rfl,(B0.below hb).2.1 2 _ rfl,(B0.below hb).2.1 3 _ rfl,(B0.below hb).2.1 4 _ rfl,(B0.below hb).2.1 5 _ rfl,(B0.below hb).2.1 6 _ rfl,(B0.below hb).2.1 7 _ rfl⟩
theorem stmts_step (X:NP) (d:Nat) (A:OA) (n c:Nat) (VA:OA) (nv cv Kv:Nat) (hKv:Kv<=900000000) (L:OA) (nl cl:Nat) (hnl:nl<=20) (w:World) (h:SlT w X 20 (cx_ d) A n c) (hv:SlT w nX Kv [.txt] VA nv cv)
  (hk:∀ k,k<nl->∃ (kd:Int) (s f:ByteArray) (nn op:Int) (E B C:OA) (m c' m1 c1 m2 c2 g o:Nat),StC w L k kd s f nn op E B C m c' m1 c1 m2 c2 g o/\SlP w X 20 pE (ay_ dE) E m c' ∧
   ∀ w':World,Below w w w'->(Calls prog 162 #[.agg #[.slice A n c],.slice VA nv cv,.slice B m1 c1] w' fun e w''=>RI e/\Below w' w' w'')/\Calls prog 162 #[.agg #[.slice A n c],.slice VA nv cv,.slice C m2 c2] w' fun e w''=>RI e/\Below w' w' w'') :
  Calls prog 162 #[.agg #[.slice A n c],.slice VA nv cv,.slice L nl cl] w fun e w'=>RI e/\Below w w w':=by
 obtain ⟨W,hW,Aj,AB,B0⟩:=af_ w [.slice A n c] 136;have A5:=h_ (∀ w',Below W W w'->w'.cell? (a_ w)=some (.slice A n c)) (fun w' hb=>(B0.below hb).2.1 0 _ rfl);have HW:=q_ Aj;have H:=q_ h;have HV:=q_ hv;have HK:=q_ hk;have AL:=h.le;have AO:=hv.le;clear B0 Aj h hv hk;go_enter func162,ntmps162;go_upto_region 2 with fail;rw [<-hW];clear hW;go_loopw [18] (fun i wr=>∃ k:Nat,k<=nl/\i=i_ k/\Hid (Below W W wr)) (fun i _=>nl - (intOf i).toNat)
 case atStart=>exact ⟨0,o_,rfl,q_ (b_)⟩
 obtain ⟨k,AJ,rfl,HR⟩:=hrel;have A6:=q_ (HW.o.trans (HR.o.mono HW.o.size));have Ay:(w:Nat)<=wr:=A6.o.size;by_cases hlt:k<nl
 ·have Ab:(k:Int)<(nl:Int):=by omega
  obtain ⟨kd,s,f,nn,op,E,B,C,m,c',m1,c1,m2,c2,g,o,Am,hE,A2⟩:=HK.o k hlt;obtain ⟨rfl,hg,k0,k1,k2,k3,k4,k5,k6,k7⟩:=Am.up A6.o;obtain ⟨V,hV,A8,AA,B0⟩:=af_ wr [i_ kd,.string s,.string f,i_ nn,i_ op,.slice E m c',.slice B m1 c1,.slice C m2 c2] 212;have A0:=q_ (A6.o.trans (A8.mono Ay));have A3:=q_ (HR.o.trans (A8.mono HR.o.size));have KC:=q_ (stb_new B0);have HE:=q_ hE;have AK:=hE.sl.le;have Ad:=q_ A2;clear B0 A8 Am hE A2;go_upto_region 4 with fail;rw [<-hV];clear hV k0 k1 k2 k3 k4 k5 k6 k7;obtain ⟨x0,x1,x2,x3,x4,x5,x6,x7⟩:=KC.o V (b_);go_upto_region 5 with fail;clear x0 x1 x2 x3 x4 x5 x6 x7;go_loopw [25] (fun i wy=>∃ j:Nat,j<=m/\i=i_ j/\Hid (Below V V wy)) (fun i _=>m - (intOf i).toNat)
  case atStart=>exact ⟨0,o_,rfl,q_ (b_)⟩
  rename World=>wy
  obtain ⟨j,AI,rfl,HY⟩:=hrel;have A7:=q_ (A0.o.trans (HY.o.mono A0.o.size));have Ao:(w:Nat)<=wy:=A7.o.size;have Ax:(V:Nat)<=wy:=HY.o.size;by_cases hlj:j<m
  ·have A9:(j:Int)<(m:Int):=by omega
   obtain ⟨ge,oe,us,rfl,Al,AC,hu,Av,hc⟩:=HE.o.el hlj;obtain ⟨Ap,n',s',Aq,A',m',Af,rfl,_,_,_⟩:=Av;rw [dx_] at hc;have A1:∀ j,wy.cell? (f_ ge j)=w.cell? (f_ ge j):=fun j=>belc A7.o Al
   have AH:ge<wy:=lt_ Al Ao;have k0:wy.cell? ⟨ge,oe+j*5,none⟩=some (i_ Ap):=(A1 _).trans (hc 0 _ rfl);have k1:wy.cell? ⟨ge,oe+j*5+1,none⟩=some (i_ n'):=(A1 _).trans (hc 1 _ rfl);have k2:wy.cell? ⟨ge,oe+j*5+2,none⟩=some (.string s'):=(A1 _).trans (hc 2 _ rfl);have k3:wy.cell? ⟨ge,oe+j*5+3,none⟩=some (i_ Aq):=(A1 _).trans (hc 3 _ rfl);have k4:wy.cell? ⟨ge,oe+j*5+4,none⟩=some (.slice A' m' Af):=(A1 _).trans (hc 4 _ rfl);have HU:=q_ (hu.up (Kp.of_below (A7.o.alloc Ao (.cells #[i_ Ap,i_ n',.string s',i_ Aq,.slice A' m' Af] 209))) (l_));clear A1 hc hu;go_wp2_with fail;refine (Reads_any X dE _ _ d_ HU.o).mono ?_;rintro e W3 ⟨⟨RA,rn,rc,rfl,hR⟩,A4⟩;have H3:=h_ (Below V V W3) ((HY.o.alloc Ax _).trans (A4.mono zp_));have AN:=hR.o.le;clear A4 k0 k1 k2 k3 k4;go_upto_region 8 with fail;go_loopw [32] (fun i wz=>∃ q:Nat,q<=rn/\i=i_ q/\Hid (Below W3 W3 wz)) (fun i _=>rn - (intOf i).toNat)
   case atStart=>exact ⟨0,o_,rfl,q_ (b_)⟩
   rename World=>wz
   obtain ⟨q,Aw,rfl,HZ⟩:=hrel;have Ae:=q_ (H3.o.trans (HZ.o.mono H3.o.size));have As:=q_ (A0.o.trans (Ae.o.mono A0.o.size));have AE:cr dE<=900000000:=by decide
   by_cases hlq:q<rn
   ·have Aa:(q:Int)<(rn:Int):=by omega
    obtain ⟨gr,Az,rfl,AG,AD,vs,An,hm⟩:=(hR.o.up (Kp.of_below HZ.o) (l_)).mt hlq;obtain ⟨u,hu,ht⟩:=An.2 0 .txt rfl;obtain ⟨t,rfl⟩:=ht.str;have y0:wz.cell? ⟨gr,Az+q,none⟩=some (.string t):=by have:=hm 0 _ hu;simpa using this
    clear An hm hu ht;go_wp2_with fail;refine (Has_any VA nv cv t nX Kv wz (HV.o.up (Kp.of_below As.o) (l_)) hKv).mono ?_;rintro e W4 ⟨⟨b,rfl⟩,Ag⟩;have H4:=q_ (HZ.o.trans (Ag.mono HZ.o.size));clear Ag y0;cases b
    case false =>
     go_wp2;go_ret;exact ⟨⟨_,rfl⟩,A0.o.trans ((H3.o.trans (H4.o.mono H3.o.size)).mono A0.o.size)⟩
    go_wp2;go_roundw
    case rel=>exact ⟨q+1,o_,zb_,H4⟩
    case measure=>exact me_
   have Aa:¬(q:Int)<(rn:Int):=by omega
   go_wp2;go_roundw
   case rel=>exact ⟨j+1,o_,zb_,Ae⟩
   case measure=>exact me_
  have A9:¬(j:Int)<(m:Int):=by omega
  obtain ⟨x0,x1,x2,x3,x4,x5,x6,x7⟩:=KC.o wy HY.o;have p0:=A5.o wy (A3.o.trans (HY.o.mono A3.o.size));go_upto_if 44 with fail;go_cut [] (fun wz=>Hid (Below V V wz))
  case first =>
   by_cases hkd:kd=3
   case neg =>
    go_wp2;go_meet;exact HY
   subst hkd;go_wp2_with fail;refine (Index_t X 20 d_ d A n c f wy (H.o.up (Kp.of_below A7.o) (l_))).mono ?_;rintro e W3 ⟨⟨r,rfl,hr,_⟩,A4⟩;have H3:=q_ (HY.o.trans (A4.mono HY.o.size));clear x0 x1 x2 x3 x4 x5 x6 x7 p0 A4;rcases hr with rfl | ⟨q,rfl,hq⟩
   ·exact ux_
   obtain ⟨x0,x1,x2,x3,x4,x5,x6,x7⟩:=KC.o W3 H3.o;have p0:=A5.o W3 (A3.o.trans (H3.o.mono A3.o.size));obtain ⟨fs,P,np,cp,FB,nb,cb,gf,AP,Ak,_,hP,_,_⟩:=H.o.fn hq;obtain ⟨rfl,AF,f0,f1,f2⟩:=Ak.up (A0.o.trans (H3.o.mono A0.o.size));have Au:=hP.le;have AM:¬(q:Int)<0:=by omega
   have Aw:(q:Int)<(n:Int):=by omega
   have Ac:(np:Int)=(m:Int)\/(np:Int)≠(m:Int):=by omega
   clear Ak hP;go_upto_region 18 with fail;go_quiet (fail);rcases Ac with Ac | Ac
   ·go_wp2;all_goals first
     | (go_ret;exact ⟨⟨_,rfl⟩,A0.o.trans ((bel H3.o) |>.mono A0.o.size)⟩)
     | (go_meet;exact q_ (bel H3.o))
   go_wp2;all_goals first
    | (go_ret;exact ⟨⟨_,rfl⟩,A0.o.trans (Below.mono (B:=V) (bel H3.o) A0.o.size)⟩)
    | (go_meet;exact q_ (bel H3.o))
  rename World=>wz
  have HZ:=hcut;clear x0 x1 x2 x3 x4 x5 x6 x7 p0;obtain ⟨x0,x1,x2,x3,x4,x5,x6,x7⟩:=KC.o wz HZ.o;go_upto_region 20 with fail;go_cut [70] (fun v wq=>∃ b:Bool,v=.bool b/\Hid (Below V V wq))
  case first =>
   go_wp2_with (go_at_call 169;refine (ep_ _ _).mono ?_;rintro e w1 ⟨⟨b,rfl⟩,hb⟩;have Ar:=q_ (HZ.o.trans (hb.mono HZ.o.size)));all_goals
    go_meet;first
     | exact ⟨_,rfl,Ar⟩
     | exact ⟨_,rfl,HZ⟩
  rename World=>wq
  obtain ⟨b,rfl,HQ⟩:=hcut;clear x0 x1 x2 x3 x4 x5 x6 x7;obtain ⟨x0,x1,x2,x3,x4,x5,x6,x7⟩:=KC.o wq HQ.o;have p0:=A5.o wq (A3.o.trans (HQ.o.mono A3.o.size));cases b
  case true =>
   go_wp2;go_ret;exact ⟨⟨_,rfl⟩,A0.o.trans (HQ.o.mono A0.o.size)⟩
  case false =>
  go_wp2_with fail;refine (Ad.o wq (A0.o.trans (HQ.o.mono A0.o.size))).1.mono ?_;rintro e W5 ⟨⟨r1,rfl⟩,Ah⟩;have H5:=q_ (HQ.o.trans (Ah.mono HQ.o.size));clear x0 x1 x2 x3 x4 x5 x6 x7 p0 Ah;obtain ⟨x0,x1,x2,x3,x4,x5,x6,x7⟩:=KC.o W5 H5.o;have p0:=A5.o W5 (A3.o.trans (H5.o.mono A3.o.size));by_cases hr1:r1=0
  case neg =>
   go_wp2;go_ret;exact ⟨⟨_,rfl⟩,A0.o.trans (H5.o.mono A0.o.size)⟩
  case pos =>
  subst hr1;go_wp2_with fail;refine (Ad.o W5 (A0.o.trans (H5.o.mono A0.o.size))).2.mono ?_;rintro e W6 ⟨⟨r2,rfl⟩,Ai⟩;have H6:=q_ (H5.o.trans (Ai.mono H5.o.size));clear x0 x1 x2 x3 x4 x5 x6 x7 p0 Ai;by_cases hr2:r2=0
  case neg =>
   go_wp2;go_ret;exact ⟨⟨_,rfl⟩,A0.o.trans (H6.o.mono A0.o.size)⟩
  case pos =>
  subst hr2;go_wp2;go_roundw
  case rel=>exact ⟨k+1,o_,zb_,q_ (A3.o.trans (H6.o.mono A3.o.size))⟩
  case measure=>exact me_
 have Ab:¬(k:Int)<(nl:Int):=by omega
 go_wp2;go_ret;exact ⟨⟨_,rfl⟩,A6.o⟩
theorem stmts_t (X:NP) (d:Nat) (A:OA) (n c:Nat) (VA:OA) (nv cv Kv:Nat) (hKv:Kv<=900000000):∀ (dd:Nat) (L:OA) (nl cl:Nat) (w:World),SlT w X 20 (cx_ d) A n c->SlT w nX Kv [.txt] VA nv cv->SlP w X 20 pS (ah_ dd) L nl cl →
  Calls prog 162 #[.agg #[.slice A n c],.slice VA nv cv,.slice L nl cl] w fun e w'=>RI e/\Below w w w'
 | 0,L,nl,cl,w,h,hv,hl=>by
  refine stmts_step X d A n c VA nv cv Kv hKv L nl cl hl.sl.le w h hv (fun k hk=>?_);obtain ⟨kd,s,f,nn,op,E,B,C,m,c',m1,c1,m2,c2,g,o,h1,h2,h3,_,_,_,_,h0,_⟩:=hl.st hk;obtain ⟨rfl,rfl⟩:=h0 rfl;exact ⟨kd,s,f,nn,op,E,B,C,m,c',0,c1,0,c2,g,o,h1,h2,fun w' hb =>
   ⟨stmts_step X d A n c VA nv cv Kv hKv B 0 c1 o_ w' (h.up (Kp.of_below hb) (l_)) (hv.up (Kp.of_below hb) (l_)) (fun k hk=>o_),stmts_step X d A n c VA nv cv Kv hKv C 0 c2 o_ w' (h.up (Kp.of_below hb) (l_)) (hv.up (Kp.of_below hb) (l_)) (fun k hk=>o_)⟩⟩
 | dd+1,L,nl,cl,w,h,hv,hl=>by
  refine stmts_step X d A n c VA nv cv Kv hKv L nl cl hl.sl.le w h hv (fun k hk=>?_);obtain ⟨kd,s,f,nn,op,E,B,C,m,c',m1,c1,m2,c2,g,o,h1,h2,h3,_,_,_,_,_,hd⟩:=hl.st hk;exact ⟨kd,s,f,nn,op,E,B,C,m,c',m1,c1,m2,c2,g,o,h1,h2,fun w' hb =>
   ⟨stmts_t X d A n c VA nv cv Kv hKv dd B m1 c1 w' (h.up (Kp.of_below hb) (l_)) (hv.up (Kp.of_below hb) (l_)) ((hd dd rfl).1.below hb),stmts_t X d A n c VA nv cv Kv hKv dd C m2 c2 w' (h.up (Kp.of_below hb) (l_)) (hv.up (Kp.of_below hb) (l_)) ((hd dd rfl).2.below hb)⟩⟩
def RCk (e:Ending):Prop:=∃ a b:Int,e=.returned (.tuple #[i_ a,i_ b])
theorem SlT.txt_of {w:World} {X:NP} {K:Nat} {A:OA} {n c:Nat} (h:SlT w X K [.sat strP] A n c):SlT w X K [.txt] A n c :=
 ⟨h.le,h.cap,h.max,h.nul,fun ad hA=>by
  obtain ⟨g,o,e,hg,hX,f,hf,ht⟩:=h.at_ ad hA
  refine ⟨g,o,e,hg,hX,f,fun k j t hk hj=>?_,fun k j t hk hj=>?_⟩
  ·match j,hj with
   | 0,_=>exact hf k 0 _ hk rfl
  match j,hj with
  | 0,hj =>
   injection hj with hj
   subst hj
   have:=ht k 0 (.sat strP) hk rfl
   obtain ⟨s,hs,_⟩:strP (f k 0):=by generalize f k 0=v at this;cases this;assumption
   rw [hs];exact .txt s⟩
theorem Check07_t (X:NP) (d:Nat) (hd:d<=3) (A:OA) (n c:Nat) (w:World) (h:SlT w X 20 (cx_ d) A n c) :
  Calls prog 108 #[.agg #[.slice A n c]] w fun e w'=>RCk e/\Below w w w':=by
 obtain ⟨W,hW,Ag,An,B0⟩:=af_ w [.slice A n c] 136;have A5:=h_ (∀ w',Below W W w'->w'.cell? (a_ w)=some (.slice A n c)) (fun w' hb=>(B0.below hb).2.1 0 _ rfl);have HW:=q_ Ag;have H:=q_ h;have Ay:=h.le;have Ao:20+cw d<=900000000:=by
  match d,hd with
  | 0,_=>decide
  | 1,_=>decide
  | 2,_=>decide
  | 3,_=>decide
 obtain ⟨Ar,As,A4,_⟩:=ei_str.hi;have p0:=A5.o W (b_);clear B0 Ag h;go_enter func108,ntmps108;go_upto_region 1 with fail;rw [<-hW];clear hW;go_wp2_with fail;refine (Shaped_t X 20 d_ d A n c W (H.o.up (Kp.of_below HW.o) (l_))).mono ?_;rintro e W1 ⟨⟨r0,rfl⟩,Ad⟩;have H1:=q_ Ad;clear p0 Ad;by_cases hr0:r0=0
 case neg =>
  go_wp2;go_ret2;exact ⟨⟨_,_,rfl⟩,HW.o.trans (H1.o.mono HW.o.size)⟩
 case pos =>
 subst hr0;have p0:=A5.o W1 H1.o;go_upto_region 5 with fail;clear p0;go_loopw [19] (fun i wr=>∃ k:Nat,k<=n/\i=i_ k/\Hid (Below W W wr)) (fun i _=>n - (intOf i).toNat)
 case atStart=>exact ⟨0,o_,rfl,H1⟩
 obtain ⟨k,Ax,rfl,HR⟩:=hrel;have A6:=q_ (HW.o.trans (HR.o.mono HW.o.size));by_cases hlt:k<n
 ·have Ab:(k:Int)<(n:Int):=by omega
  obtain ⟨s,P,np,cp,B,nb,cb,g,o,Ah,hs,hP,hB,_⟩:=H.o.fn hlt;obtain ⟨rfl,hg,k0,k1,k2⟩:=Ah.up A6.o;obtain ⟨V,hV,A8,Am,B1⟩:=af_ wr [.string s,.slice P np cp,.slice B nb cb] 194;have A0:=q_ (A6.o.trans (A8.mono A6.o.size));have A2:=q_ (HR.o.trans (A8.mono HR.o.size));have KC:=h_ (∀ w',Below V V w'->(w'.cell? (a_ wr)=some (.string s)/\w'.cell? (f_ wr 1)=some (.slice P np cp)/\w'.cell? (f_ wr 2)=some (.slice B nb cb))) (fun w' hb=>⟨(B1.below hb).2.1 0 _ rfl,(B1.below hb).2.1 1 _ rfl,(B1.below hb).2.1 2 _ rfl⟩);have Ap:=hP.le;have Aq:=hP.cap;have HP:=q_ hP;have HB:=q_ hB;clear B1 A8 Ah hP hB Am An;go_upto_region 7 with fail;rw [<-hV];clear hV k0 k1 k2;obtain ⟨x0,x1,x2⟩:=KC.o V (b_);go_upto_region 8 with fail;clear x0 x1 x2;go_loopw [27] (fun i wy=>∃ j:Nat,j<=np/\i=i_ j/\Hid (Below V V wy)) (fun i _=>np - (intOf i).toNat)
  case atStart=>exact ⟨0,o_,rfl,q_ (b_)⟩
  rename World=>wy
  obtain ⟨j,Aw,rfl,HY⟩:=hrel;have A7:=q_ (A0.o.trans (HY.o.mono A0.o.size));obtain ⟨x0,x1,x2⟩:=KC.o wy HY.o;have p0:=A5.o wy (A2.o.trans (HY.o.mono A2.o.size));by_cases hlj:j<np
  ·have Aa:(j:Int)<(np:Int):=by omega
   obtain ⟨gp,op,rfl,Av,Au,us,hv,hm⟩:=(HP.o.up (Kp.of_below A7.o) (l_)).mt hlj;obtain ⟨u,hu,ht⟩:=hv.2 0 (.sat strP) rfl;obtain ⟨t,rfl,AB⟩:strP u:=by cases ht;assumption
   have y0:wy.cell? ⟨gp,op+j,none⟩=some (.string t):=by have:=hm 0 _ hu;simpa using this
   have AA:∀ w',(Instr.slice 188 (.slice (some (f_ gp op)) np cp) none (some (i_ j)) none).run prog w'=.ok (.slice (some (f_ gp op)) j cp) w':=fun w'=>slice_high underlying188 A4 o_ w'
   have Ak:=q_ ((HP.o.take (k:=j) o_ cp o_ (l_)).txt_of);clear hv hm hu ht;go_upto_region 10 with fail;go_cut [45] (fun v wz=>∃ b:Bool,v=.bool b/\Hid (Below V V wz))
   case first =>
    go_wp2_with fail;refine (Index_t X 20 d_ d _ n c s wy (H.o.up (Kp.of_below A7.o) (l_))).mono ?_;rintro e W3 ⟨⟨r,rfl,_,_⟩,A3⟩;have H3:=q_ (HY.o.trans (A3.mono HY.o.size));clear x0 x1 x2 p0 y0 A3;obtain ⟨x0,x1,x2⟩:=KC.o W3 H3.o;go_wp2_with (go_at_call 161;refine (Has_any _ _ _ _ X 20 W3 (Ak.o.up (Kp.of_below (A0.o.trans (H3.o.mono A0.o.size))) (l_)) d_).mono ?_;rintro e w1 ⟨⟨b,rfl⟩,hb⟩;have Aj:=q_ (H3.o.trans (hb.mono H3.o.size)));all_goals
     go_meet;first
      | exact ⟨_,rfl,Aj⟩
      | exact ⟨_,rfl,H3⟩
   rename World=>wz
   obtain ⟨b,rfl,HZ⟩:=hcut;clear x0 x1 x2 p0 y0;cases b
   case true =>
    go_wp2;go_ret2;exact ⟨⟨_,_,rfl⟩,A0.o.trans (HZ.o.mono A0.o.size)⟩
   go_wp2;go_roundw
   case rel=>exact ⟨j+1,o_,zb_,HZ⟩
   case measure=>exact me_
  have Aa:¬(j:Int)<(np:Int):=by omega
  go_wp2_with fail;refine (Index_t X 20 d_ d _ n c s wy (H.o.up (Kp.of_below A7.o) (l_))).mono ?_;rintro e W3 ⟨⟨r,rfl,_,_⟩,A3⟩;have H3:=q_ (HY.o.trans (A3.mono HY.o.size));clear x0 x1 x2 p0 A3;obtain ⟨x0,x1,x2⟩:=KC.o W3 H3.o;have Ac:r<(k:Int)\/¬r<(k:Int):=by omega
  rcases Ac with Ac | Ac
  ·go_wp2;go_ret2;exact ⟨⟨_,_,rfl⟩,A0.o.trans (H3.o.mono A0.o.size)⟩
  go_wp2_with fail;refine (Vars_t X 900000000 (l_) d s P np cp B nb cb W3 (HP.o.up (Kp.of_below (A0.o.trans (H3.o.mono A0.o.size))) (l_)) (HB.o.below (A0.o.trans (H3.o.mono A0.o.size))) Ao).mono ?_;rintro e W4 ⟨⟨VA,nv,cv,rfl,hR⟩,Ae⟩;have H4:=q_ (H3.o.trans (Ae.mono H3.o.size));have Al:=h_ (SlT W4 nX 900000000 [.txt] VA nv cv) (hR.o.less2 (fun _ _ h=>h.elim));have Az:=hR.o.le;clear x0 x1 x2 Ae hR;obtain ⟨x0,x1,x2⟩:=KC.o W4 H4.o;go_upto_region 16 with fail;go_cut [64] (fun v wz=>∃ b:Bool,v=.bool b/\Hid (wz=W4))
  case first =>
   have A9:((k:Int) == 0)=true\/((k:Int) == 0)=false:=by cases ((k:Int) == 0);exact .inr rfl;exact .inl rfl
   rcases A9 with A9 | A9
   all_goals
    go_wp2;all_goals
     go_meet;exact ⟨_,rfl,q_ rfl⟩
  rename World=>wz
  obtain ⟨b,rfl,Ai⟩:=hcut;have hw:=Ai.o;subst hw;clear Ai;cases b
  case true =>
   go_wp2;go_ret2;exact ⟨⟨_,_,rfl⟩,A0.o.trans (H4.o.mono A0.o.size)⟩
  case false =>
  have A1:(16:Int)<(nv:Int)\/¬(16:Int)<(nv:Int):=by omega
  rcases A1 with A1 | A1
  ·go_wp2;go_ret2;exact ⟨⟨_,_,rfl⟩,A0.o.trans (H4.o.mono A0.o.size)⟩
  have p0:=A5.o wz (A2.o.trans (H4.o.mono A2.o.size));go_wp2_with fail;refine (stmts_t X d _ n c VA nv cv 900000000 (l_) d B nb cb wz (H.o.up (Kp.of_below (A0.o.trans (H4.o.mono A0.o.size))) (l_)) Al.o (HB.o.below (A0.o.trans (H4.o.mono A0.o.size)))).mono ?_;rintro e W5 ⟨⟨r1,rfl⟩,Af⟩;have H5:=q_ (H4.o.trans (Af.mono H4.o.size));clear x0 x1 x2 p0 Af;by_cases hr1:r1=0
  case neg =>
   go_wp2;go_ret2;exact ⟨⟨_,_,rfl⟩,A0.o.trans (H5.o.mono A0.o.size)⟩
  case pos =>
  subst hr1;go_wp2;go_roundw
  case rel=>exact ⟨k+1,o_,zb_,q_ (A2.o.trans (H5.o.mono A2.o.size))⟩
  case measure=>exact me_
 have Ab:¬(k:Int)<(n:Int):=by omega
 go_wp2;go_ret2;exact ⟨⟨_,_,rfl⟩,A6.o⟩
section
variable {Q:Exit->Act->World->Prop} {X:XE} {Inv:World->Prop} {o:Oper} {a:Act} {w:World} {d b lp:Nat} {x y:Operand}
theorem rk_pointer (hC:IC d b lp X Inv) (ho:o.op=.call { callee:=.value (.func 205),args:=#[x],argTypes:=#[203] }) (hx:a.eval x=.pointer (some (a_ b))) (hI:Inv w):RnK prog Q X Inv (kEx X 2) o a w:=by
 have hf:a.eval (.func 205)=.func (.func 205) #[] #[]:=rfl;generalize hr:a.eval=r at hx hf;refine cm_ (f:=205) (args:=#[.pointer (some (a_ b))]) ys_ ((pointer_ok d b lp X w (hC.ok w hI) hC.zx (hC.lt w hI)).mono ?_);exact uh_
theorem rk_callm (hC:IC d b lp X Inv) (ho:o.op=.call { callee:=.value (.func 206),args:=#[x,y],argTypes:=#[203,9] }) (hx:a.eval x=.pointer (some (a_ b))) (hy:(kStr X).p w (a.eval y)) (hI:Inv w):RnK prog Q X Inv (kSt X 0) o a w:=by
 obtain ⟨s,hy,hs⟩:=hy;have hf:a.eval (.func 206)=.func (.func 206) #[] #[]:=rfl;generalize hr:a.eval=r at hx hy hf;refine cm_ (f:=206) (args:=#[.pointer (some (a_ b)),.string s]) z9_ ((call_ok d b lp X s w hs (hC.ok w hI) hC.zx (hC.lt w hI)).mono ?_);exact v7_
end
def SimpleOK:Prop:=∀ (d b lp:Nat) (X:NP) (w:World),Mk d b lp w->(∀ q,Zm d b q->X q)->(∀ q,X q->q<w)->Calls prog 196 #[.pointer (some (a_ b))] w fun e w'=>RS X 0 e w'/\Md d b lp w w'
theorem simple_ok:SimpleOK:=by
 intro d b lp X w hM hz Ah;obtain ⟨W,hW,Ae,Al,B0⟩:=af_ w [i_ 0,.string ⟨#[]⟩,.string ⟨#[]⟩,i_ 0,i_ 0,.slice none 0 0,.slice none 0 0,.slice none 0 0] 212;have A9:=hM.below Ae;have A7:b<w:=hM.lt;obtain ⟨X1,Aa⟩:∃ X1:NP,X1=fun q=>X q\/q=w:=⟨_,rfl⟩
 obtain ⟨Z1,Ac⟩:∃ Z1:NP,Z1=fun q=>Zm d b q\/q=w:=⟨_,rfl⟩
 have A2:=h_ (X1 w/\Z1 w) (⟨by rw [Aa];exact .inr rfl,by rw [Ac];exact .inr rfl⟩);have Af:InvR d b lp X1 Z1 w w (ah_ (0)) pS W:=⟨A9,.of_below Ae,fun q hq=>by rw [Aa] at hq;rcases hq with hq | hq;(have:=Ah q hq;omega);omega,_,B0,ec_ (SlP.nil _ _ _ _ _),pS_st x_ x_ x_ d_ d_⟩;have hC:IC d b lp (x1 X1) (InvR d b lp X1 Z1 w w (ah_ (0)) pS):=InvR.ic (fun _ _ _ h=>h) (fun q hq=>by rw [Aa];exact .inl (hz q hq)) (fun q hq=>by rw [Ac];exact .inl hq) hM.nz;have HC:=q_ hC;have A5:=h_ (∀ w',Mk d b lp w'->Kp (Zm d b) W w'->InvR d b lp X1 Z1 w w (ah_ (0)) pS w') (fun w' h1 h2=>hC.up W w' Af h1 h2);have A1:=h_ (∀ (a:Act) (w2:World),InvR d b lp X1 Z1 w w (ah_ (0)) pS w2->a.defers=[]->a.tmps.getD 2 undef=.pointer (some (a_ w))->bodyPost prog f196 (fun e w'=>RS X (0) e w'/\Md d b lp w w') .ret a w2) (fun a w2 hI A0 ha=>by
  obtain ⟨cs,g1,g2,g3⟩:=hI.bx
  obtain ⟨kd,s,f,n,op,A,B,C,m,c,c1,c2,rfl,_⟩:=g2.stmt0
  refine retC results196 ha underlying212 rfl (cs:=stL kd s f n op A m c B 0 c1 C 0 c2) isz8 g1.whole A0 ⟨⟨_,_,_,_,_,_,_,_,_,_,_,_,_,_,rfl,q_ ⟨g2.less (fun q _ hq=>by rw [Aa];exact .inl hq),g3⟩⟩,hI.ok,hI.kp.mono (fun q hq Ai=>?_)⟩
  rw [Ac] at Ai
  rcases Ai with h | h
  ·exact h
  omega)
 have c0:=A9.c0;have Ad:=A9.lt;have HD:=q_ A9.dice;have Ak:=q_ A9;clear hM hz Ah B0 Ae Af hC Al Aa Ac;go_enter func196,ntmps196;go_upto_region 1 with fail;rw [<-hW];clear hW;go_cut [3] (fun v wx=>∃ s:ByteArray,v=.string s/\s.size<=100/\Hid (Mk d b lp wx)/\Hid (Kp (Zm d b) W wx))
 case first =>
  refine dl_ (X:=⟨Zm d b,fun _=>True⟩) (Inv:=fun w2=>Mk d b lp w2/\Kp (Zm d b) W w2) (ks:=fun i=>([(bs_ _ 5),(kV _ (pt b)),(kV _ (pt b)),(kV _ (pt b)),(kV _ (pt d)),(bs_ _ 5),(kV _ (i_ (5:Nat))),(kNat _ 5),(df_ _),(kStr _),(kStr _)]:List (SK (x1 (Zm d b)))).getD i (kAny _)) rfl k_ ⟨Ak.o.below (Below.drew (b_)),Kp.of_below (Below.drew (b_))⟩ ?_ ?_
  ·have HC:=h_ (IC d b lp ⟨Zm d b,fun _=>True⟩ (fun w2=>Mk d b lp w2/\Kp (Zm d b) W w2)) (⟨fun _ h=>h.1,fun _ h=>h,fun _ h=>h.1.zlt,fun _ _ h h1 h2=>⟨h1,h.2.trans h2⟩,fun _ _ _ _ h=>h⟩);intro i o ho a w hI hout hin
   match i,ho with
   | 0,ho=>cases ho;exact rk_names HC.o rfl hI
   | 1,ho=>cases ho;exact M0_
   | 2,ho=>cases ho;exact bz_ rfl H1_ hI
   | 3,ho=>cases ho;exact ca_ d_ rfl H2_ hI
   | 4,ho=>cases ho;exact bk_ HC.o rfl H3_ hI
   | 5,ho=>cases ho;exact rk_names HC.o rfl hI
   | 6,ho=>cases ho;exact rk_len rfl (show (bs_ _ 5).p w _ from H5_) hI
   | 7,ho=>cases ho;exact bp_ (n:=5) HC.o rfl H4_ H6_ d_ d_ hI
   | 8,ho=>cases ho;exact rk_idx (n:=5) rfl (show (bs_ _ 5).p w _ from H0_) (show (kNat _ 5).p w _ from H7_) hI
   | 9,ho=>cases ho;exact eg_ rfl (show (df_ _).p w _ from H8_) hI
   | 10,ho=>cases ho;exact bl_ (.inr rfl) (show (kStr _).p w _ from H9_) hI
   | q+11,ho=>exact n_ ho
  intro a w2 hI hsz A0 hout A4;obtain ⟨gs,Ag⟩:∃ gs:Nat->Value,∀ t,a.tmps.getD t undef=gs t:=⟨_,fun _=>rfl⟩;obtain ⟨s,hs,hz⟩:(kStr ⟨Zm d b,fun _=>True⟩).p w2 (gs 3):=by rw [<-Ag];exact A4 10 _ _ rfl rfl
  have ha:=dj_ (D:=[4,5,6,7,8,9,10,11,12,13,3]) hsz A0 t_ hout Ag;simp only [List.foldl_cons,List.foldl_nil,Act.put,List.setIfInBounds_toArray,List.set_cons_zero,List.set_cons_succ] at ha;subst ha;go_wp2;go_meet;first | exact ⟨s,rfl,hz,q_ hI.1,q_ hI.2⟩ | exact ⟨s,hs,hz,q_ hI.1,q_ hI.2⟩
 case rest =>
 rename World=>w0
 obtain ⟨s,rfl,hs,A8,Aj⟩:=hcut;clear c0 Ad;have c0:=A8.o.c0;have Ad:=A8.o.lt;obtain ⟨fn,c3⟩:=A8.o.c3;go_upto_region 3 with (go_at_call 26;refine (bn_ d 13 w0 A8.o.dice d_ d_).mono ?_;rintro e w1 ⟨r,hr,rfl,ht,_⟩);have A3:=q_ (A8.o.thrown ht);have A6:=q_ (Aj.o.trans (ht.kp b));clear c0 Ad ht c3;obtain ⟨fn,c3⟩:=A3.o.c3;have Ad:=A3.o.lt;have Ab:r=0\/r=1\/r=2\/r=3\/r=4\/r=5\/r=6\/r=7\/r=8\/r=9\/(r=10/\fn<2)\/(r=10/\¬fn<2)\/r=11\/r=12:=by omega
 rcases Ab with rfl | rfl | rfl | rfl | rfl | rfl | rfl | rfl | rfl | rfl | ⟨rfl,hfn⟩ | ⟨rfl,hfn⟩ | rfl | rfl
 ·go_upto_region 5 with fail;refine be_ (X:=(x1 X1)) (Inv:=(InvR d b lp X1 Z1 w w (ah_ (0)) pS)) (ks:=fun i=>([(kStr _),(kV _ (pt b)),(kEx _ 3),(kSt _ 0),(kAny _)]:List (SK (x1 X1))).getD i (kAny _)) k_ (A5.o _ A3.o A6.o) ?_ ?_
  ·intro i o ho a w hI hout hin
   match i,ho with
   | 0,ho=>cases ho;exact bl_ (.inl rfl) (show (kStr _).p w _ from ⟨s,hout 3 d_,hs⟩) hI
   | 1,ho=>cases ho;exact M0_
   | 2,ho=>cases ho;exact ch_ (k:=2) HC.o (ck_ 2 d_) rfl H1_ rfl hI
   | 3,ho=>cases ho;exact dg_ HC.o rfl (show (kStr _).p w _ from H0_) (bg_ (d':=dE) d_ (show (kEx _ 3).p w _ from H2_)) hI
   | 4,ho=>cases ho;exact bi_ (fun _ h=>h) A7 A2.o.1 A2.o.2 rfl (hout 2 d_) (show (kSt _ 0).p w _ from H3_) hI
   | q+5,ho=>exact n_ ho
  exact vf_
 ·go_upto_region 5 with fail;refine be_ (X:=(x1 X1)) (Inv:=(InvR d b lp X1 Z1 w w (ah_ (0)) pS)) (ks:=fun i=>([(kStr _),(kV _ (pt b)),(kEx _ 3),(kSt _ 0),(kAny _)]:List (SK (x1 X1))).getD i (kAny _)) k_ (A5.o _ A3.o A6.o) ?_ ?_
  ·intro i o ho a w hI hout hin
   match i,ho with
   | 0,ho=>cases ho;exact bl_ (.inl rfl) (show (kStr _).p w _ from ⟨s,hout 3 d_,hs⟩) hI
   | 1,ho=>cases ho;exact M0_
   | 2,ho=>cases ho;exact ch_ (k:=2) HC.o (ck_ 2 d_) rfl H1_ rfl hI
   | 3,ho=>cases ho;exact dg_ HC.o rfl (show (kStr _).p w _ from H0_) (bg_ (d':=dE) d_ (show (kEx _ 3).p w _ from H2_)) hI
   | 4,ho=>cases ho;exact bi_ (fun _ h=>h) A7 A2.o.1 A2.o.2 rfl (hout 2 d_) (show (kSt _ 0).p w _ from H3_) hI
   | q+5,ho=>exact n_ ho
  exact vf_
 ·go_upto_region 7 with fail;refine dl_ (X:=(x1 X1)) (Inv:=(InvR d b lp X1 Z1 w w (ah_ (0)) pS)) (ks:=fun i=>([(bs_ _ 2),(kV _ (pt b)),(kV _ (pt b)),(kV _ (pt b)),(kV _ (pt d)),(kNat _ 2),(df_ _),(kStr _),(kV _ (pt b)),(kV _ (pt b)),(kV _ (pt b)),(kV _ (pt d)),(kNat _ 2),(kInt _),(kEx _ 0),(kSt _ 0),(kAny _)]:List (SK (x1 X1))).getD i (kAny _)) rfl k_ (A5.o _ (A3.o.below (Below.drew (b_))) (A6.o.bb_ (Below.drew (b_)))) ?_ ?_
  ·intro i o ho a w hI hout hin
   match i,ho with
   | 0,ho=>cases ho;exact rk_bst2 HC.o rfl d_ d_ hI
   | 1,ho=>cases ho;exact M0_
   | 2,ho=>cases ho;exact bz_ rfl H1_ hI
   | 3,ho=>cases ho;exact ca_ d_ rfl H2_ hI
   | 4,ho=>cases ho;exact bk_ HC.o rfl H3_ hI
   | 5,ho=>cases ho;exact bp_ (n:=2) HC.o rfl H4_ rfl d_ d_ hI
   | 6,ho=>cases ho;exact rk_idx (n:=2) rfl (show (bs_ _ 2).p w _ from H0_) (show (kNat _ 2).p w _ from H5_) hI
   | 7,ho=>cases ho;exact eg_ rfl (show (df_ _).p w _ from H6_) hI
   | 8,ho=>cases ho;exact M0_
   | 9,ho=>cases ho;exact bz_ rfl H8_ hI
   | 10,ho=>cases ho;exact ca_ d_ rfl H9_ hI
   | 11,ho=>cases ho;exact bk_ HC.o rfl H10_ hI
   | 12,ho=>cases ho;exact bp_ (n:=2) HC.o rfl H11_ rfl d_ d_ hI
   | 13,ho=>cases ho;exact rk_add (.inl rfl) rfl ⟨_,rfl⟩ (cr_ (show (kNat _ 2).p w _ from H12_)) hI
   | 14,ho=>cases ho;exact rk_be1 rfl d_ (show (kInt _).p w _ from H13_) hI
   | 15,ho=>cases ho;exact dg_ HC.o rfl (show (kStr _).p w _ from H7_) (bg_ (d':=dE) d_ (show (kEx _ 0).p w _ from H14_)) hI
   | 16,ho=>cases ho;exact bi_ (fun _ h=>h) A7 A2.o.1 A2.o.2 rfl (hout 2 d_) (show (kSt _ 0).p w _ from H15_) hI
   | q+17,ho=>exact n_ ho
  exact vf_
 ·go_upto_region 10 with fail;refine be_ (X:=(x1 X1)) (Inv:=(InvR d b lp X1 Z1 w w (ah_ (0)) pS)) (ks:=fun i=>([(kV _ (pt b)),(kV _ (pt b)),(kV _ (pt b)),(kV _ (pt d)),(kNat _ 3),(kV _ (pt b)),(kEx _ 2),(kV _ (pt b)),(kEx _ 2),(kExs _ dE 2),(kSt _ 0),(kAny _)]:List (SK (x1 X1))).getD i (kAny _)) k_ (A5.o _ A3.o A6.o) ?_ ?_
  ·intro i o ho a w hI hout hin
   match i,ho with
   | 0,ho=>cases ho;exact M0_
   | 1,ho=>cases ho;exact bz_ rfl H0_ hI
   | 2,ho=>cases ho;exact ca_ d_ rfl H1_ hI
   | 3,ho=>cases ho;exact bk_ HC.o rfl H2_ hI
   | 4,ho=>cases ho;exact bp_ (n:=3) HC.o rfl H3_ rfl d_ d_ hI
   | 5,ho=>cases ho;exact M0_
   | 6,ho=>cases ho;exact rk_pointer HC.o rfl H5_ hI
   | 7,ho=>cases ho;exact M0_
   | 8,ho=>cases ho;exact ch_ (k:=1) HC.o (ck_ 1 d_) rfl H7_ rfl hI
   | 9,ho=>cases ho;exact rk_bse2 HC.o rfl (bg_ (d':=dE) d_ (show (kEx _ 2).p w _ from H6_)) (bg_ (d':=dE) d_ (show (kEx _ 2).p w _ from H8_)) hI
   | 10,ho=>cases ho;exact rk_bs_035 rfl rfl (cr_ (show (kNat _ 3).p w _ from H4_)) (show (kExs _ dE 2).p w _ from H9_) d_ d_ (fun h=>absurd h d_) hI
   | 11,ho=>cases ho;exact bi_ (fun _ h=>h) A7 A2.o.1 A2.o.2 rfl (hout 2 d_) (show (kSt _ 0).p w _ from H10_) hI
   | q+12,ho=>exact n_ ho
  exact vf_
 ·go_upto_region 10 with fail;refine be_ (X:=(x1 X1)) (Inv:=(InvR d b lp X1 Z1 w w (ah_ (0)) pS)) (ks:=fun i=>([(kV _ (pt b)),(kV _ (pt b)),(kV _ (pt b)),(kV _ (pt d)),(kNat _ 3),(kV _ (pt b)),(kEx _ 2),(kV _ (pt b)),(kEx _ 2),(kExs _ dE 2),(kSt _ 0),(kAny _)]:List (SK (x1 X1))).getD i (kAny _)) k_ (A5.o _ A3.o A6.o) ?_ ?_
  ·intro i o ho a w hI hout hin
   match i,ho with
   | 0,ho=>cases ho;exact M0_
   | 1,ho=>cases ho;exact bz_ rfl H0_ hI
   | 2,ho=>cases ho;exact ca_ d_ rfl H1_ hI
   | 3,ho=>cases ho;exact bk_ HC.o rfl H2_ hI
   | 4,ho=>cases ho;exact bp_ (n:=3) HC.o rfl H3_ rfl d_ d_ hI
   | 5,ho=>cases ho;exact M0_
   | 6,ho=>cases ho;exact rk_pointer HC.o rfl H5_ hI
   | 7,ho=>cases ho;exact M0_
   | 8,ho=>cases ho;exact ch_ (k:=1) HC.o (ck_ 1 d_) rfl H7_ rfl hI
   | 9,ho=>cases ho;exact rk_bse2 HC.o rfl (bg_ (d':=dE) d_ (show (kEx _ 2).p w _ from H6_)) (bg_ (d':=dE) d_ (show (kEx _ 2).p w _ from H8_)) hI
   | 10,ho=>cases ho;exact rk_bs_035 rfl rfl (cr_ (show (kNat _ 3).p w _ from H4_)) (show (kExs _ dE 2).p w _ from H9_) d_ d_ (fun h=>absurd h d_) hI
   | 11,ho=>cases ho;exact bi_ (fun _ h=>h) A7 A2.o.1 A2.o.2 rfl (hout 2 d_) (show (kSt _ 0).p w _ from H10_) hI
   | q+12,ho=>exact n_ ho
  exact vf_
 ·go_upto_region 13 with fail;refine dl_ (X:=(x1 X1)) (Inv:=(InvR d b lp X1 Z1 w w (ah_ (0)) pS)) (ks:=fun i=>([(bs_ _ 2),(kV _ (pt b)),(kV _ (pt b)),(kV _ (pt b)),(kV _ (pt d)),(kNat _ 2),(df_ _),(kStr _),(kInts' _ 4),(kV _ (pt b)),(kV _ (pt b)),(kV _ (pt b)),(kV _ (pt d)),(kNat _ 4),(kPInt' _),(kInt _),(kV _ (pt b)),(kEx _ 2),(kExs _ dE 1),(kSt _ 0),(kAny _)]:List (SK (x1 X1))).getD i (kAny _)) rfl k_ (A5.o _ (A3.o.below (Below.drew (b_))) (A6.o.bb_ (Below.drew (b_)))) ?_ ?_
  ·intro i o ho a w hI hout hin
   match i,ho with
   | 0,ho=>cases ho;exact rk_bst2 HC.o rfl d_ d_ hI
   | 1,ho=>cases ho;exact M0_
   | 2,ho=>cases ho;exact bz_ rfl H1_ hI
   | 3,ho=>cases ho;exact ca_ d_ rfl H2_ hI
   | 4,ho=>cases ho;exact bk_ HC.o rfl H3_ hI
   | 5,ho=>cases ho;exact bp_ (n:=2) HC.o rfl H4_ rfl d_ d_ hI
   | 6,ho=>cases ho;exact rk_idx (n:=2) rfl (show (bs_ _ 2).p w _ from H0_) (show (kNat _ 2).p w _ from H5_) hI
   | 7,ho=>cases ho;exact eg_ rfl (show (df_ _).p w _ from H6_) hI
   | 8,ho=>cases ho;exact rk_bsi4' HC.o rfl hI
   | 9,ho=>cases ho;exact M0_
   | 10,ho=>cases ho;exact bz_ rfl H9_ hI
   | 11,ho=>cases ho;exact ca_ d_ rfl H10_ hI
   | 12,ho=>cases ho;exact bk_ HC.o rfl H11_ hI
   | 13,ho=>cases ho;exact bp_ (n:=4) HC.o rfl H12_ rfl d_ d_ hI
   | 14,ho=>cases ho;exact rk_idxi' (n:=4) rfl (show (kInts' _ 4).p w _ from H8_) (show (kNat _ 4).p w _ from H13_) hI
   | 15,ho=>cases ho;exact rk_lint' rfl (show (kPInt' _).p w _ from H14_) hI
   | 16,ho=>cases ho;exact M0_
   | 17,ho=>cases ho;exact ch_ (k:=1) HC.o (ck_ 1 d_) rfl H16_ rfl hI
   | 18,ho=>cases ho;exact dq_ HC.o rfl (bg_ (d':=dE) d_ (show (kEx _ 2).p w _ from H17_)) hI
   | 19,ho=>cases ho;exact rk_bs_0145 rfl rfl (show (kStr _).p w _ from H7_) (show (kInt _).p w _ from H15_) (show (kExs _ dE 1).p w _ from H18_) d_ d_ (fun h=>absurd h d_) hI
   | 20,ho=>cases ho;exact bi_ (fun _ h=>h) A7 A2.o.1 A2.o.2 rfl (hout 2 d_) (show (kSt _ 0).p w _ from H19_) hI
   | q+21,ho=>exact n_ ho
  exact vf_
 ·go_upto_region 13 with fail;refine dl_ (X:=(x1 X1)) (Inv:=(InvR d b lp X1 Z1 w w (ah_ (0)) pS)) (ks:=fun i=>([(bs_ _ 2),(kV _ (pt b)),(kV _ (pt b)),(kV _ (pt b)),(kV _ (pt d)),(kNat _ 2),(df_ _),(kStr _),(kInts' _ 4),(kV _ (pt b)),(kV _ (pt b)),(kV _ (pt b)),(kV _ (pt d)),(kNat _ 4),(kPInt' _),(kInt _),(kV _ (pt b)),(kEx _ 2),(kExs _ dE 1),(kSt _ 0),(kAny _)]:List (SK (x1 X1))).getD i (kAny _)) rfl k_ (A5.o _ (A3.o.below (Below.drew (b_))) (A6.o.bb_ (Below.drew (b_)))) ?_ ?_
  ·intro i o ho a w hI hout hin
   match i,ho with
   | 0,ho=>cases ho;exact rk_bst2 HC.o rfl d_ d_ hI
   | 1,ho=>cases ho;exact M0_
   | 2,ho=>cases ho;exact bz_ rfl H1_ hI
   | 3,ho=>cases ho;exact ca_ d_ rfl H2_ hI
   | 4,ho=>cases ho;exact bk_ HC.o rfl H3_ hI
   | 5,ho=>cases ho;exact bp_ (n:=2) HC.o rfl H4_ rfl d_ d_ hI
   | 6,ho=>cases ho;exact rk_idx (n:=2) rfl (show (bs_ _ 2).p w _ from H0_) (show (kNat _ 2).p w _ from H5_) hI
   | 7,ho=>cases ho;exact eg_ rfl (show (df_ _).p w _ from H6_) hI
   | 8,ho=>cases ho;exact rk_bsi4' HC.o rfl hI
   | 9,ho=>cases ho;exact M0_
   | 10,ho=>cases ho;exact bz_ rfl H9_ hI
   | 11,ho=>cases ho;exact ca_ d_ rfl H10_ hI
   | 12,ho=>cases ho;exact bk_ HC.o rfl H11_ hI
   | 13,ho=>cases ho;exact bp_ (n:=4) HC.o rfl H12_ rfl d_ d_ hI
   | 14,ho=>cases ho;exact rk_idxi' (n:=4) rfl (show (kInts' _ 4).p w _ from H8_) (show (kNat _ 4).p w _ from H13_) hI
   | 15,ho=>cases ho;exact rk_lint' rfl (show (kPInt' _).p w _ from H14_) hI
   | 16,ho=>cases ho;exact M0_
   | 17,ho=>cases ho;exact ch_ (k:=1) HC.o (ck_ 1 d_) rfl H16_ rfl hI
   | 18,ho=>cases ho;exact dq_ HC.o rfl (bg_ (d':=dE) d_ (show (kEx _ 2).p w _ from H17_)) hI
   | 19,ho=>cases ho;exact rk_bs_0145 rfl rfl (show (kStr _).p w _ from H7_) (show (kInt _).p w _ from H15_) (show (kExs _ dE 1).p w _ from H18_) d_ d_ (fun h=>absurd h d_) hI
   | 20,ho=>cases ho;exact bi_ (fun _ h=>h) A7 A2.o.1 A2.o.2 rfl (hout 2 d_) (show (kSt _ 0).p w _ from H19_) hI
   | q+21,ho=>exact n_ ho
  exact vf_
 ·go_upto_region 15 with fail;refine be_ (X:=(x1 X1)) (Inv:=(InvR d b lp X1 Z1 w w (ah_ (0)) pS)) (ks:=fun i=>([(kV _ (pt b)),(kEx _ 2),(kExs _ dE 1),(kSt _ 0),(kAny _)]:List (SK (x1 X1))).getD i (kAny _)) k_ (A5.o _ A3.o A6.o) ?_ ?_
  ·intro i o ho a w hI hout hin
   match i,ho with
   | 0,ho=>cases ho;exact M0_
   | 1,ho=>cases ho;exact ch_ (k:=1) HC.o (ck_ 1 d_) rfl H0_ rfl hI
   | 2,ho=>cases ho;exact dq_ HC.o rfl (bg_ (d':=dE) d_ (show (kEx _ 2).p w _ from H1_)) hI
   | 3,ho=>cases ho;exact rk_bs_05 rfl rfl (show (kExs _ dE 1).p w _ from H2_) d_ d_ (fun h=>absurd h d_) hI
   | 4,ho=>cases ho;exact bi_ (fun _ h=>h) A7 A2.o.1 A2.o.2 rfl (hout 2 d_) (show (kSt _ 0).p w _ from H3_) hI
   | q+5,ho=>exact n_ ho
  exact vf_
 ·go_upto_region 17 with fail;refine be_ (X:=(x1 X1)) (Inv:=(InvR d b lp X1 Z1 w w (ah_ (0)) pS)) (ks:=fun i=>([(kStr _),(kV _ (pt b)),(kEx _ 2),(kExs _ dE 1),(kSt _ 0),(kAny _)]:List (SK (x1 X1))).getD i (kAny _)) k_ (A5.o _ A3.o A6.o) ?_ ?_
  ·intro i o ho a w hI hout hin
   match i,ho with
   | 0,ho=>cases ho;exact bl_ (.inl rfl) (show (kStr _).p w _ from ⟨s,hout 3 d_,hs⟩) hI
   | 1,ho=>cases ho;exact M0_
   | 2,ho=>cases ho;exact ch_ (k:=1) HC.o (ck_ 1 d_) rfl H1_ rfl hI
   | 3,ho=>cases ho;exact dq_ HC.o rfl (bg_ (d':=dE) d_ (show (kEx _ 2).p w _ from H2_)) hI
   | 4,ho=>cases ho;exact rk_bs_015 rfl rfl (show (kStr _).p w _ from H0_) (show (kExs _ dE 1).p w _ from H3_) d_ d_ (fun h=>absurd h d_) hI
   | 5,ho=>cases ho;exact bi_ (fun _ h=>h) A7 A2.o.1 A2.o.2 rfl (hout 2 d_) (show (kSt _ 0).p w _ from H4_) hI
   | q+6,ho=>exact n_ ho
  exact vf_
 ·go_upto_region 19 with fail;refine be_ (X:=(x1 X1)) (Inv:=(InvR d b lp X1 Z1 w w (ah_ (0)) pS)) (ks:=fun i=>([(kEx _ 0),(kV _ (pt b)),(kEx _ 2),(kEx _ 3),(kSt _ 0),(kAny _)]:List (SK (x1 X1))).getD i (kAny _)) k_ (A5.o _ A3.o A6.o) ?_ ?_
  ·intro i o ho a w hI hout hin
   match i,ho with
   | 0,ho=>cases ho;exact eh_ HC.o rfl ⟨_,rfl,d_⟩ hI
   | 1,ho=>cases ho;exact M0_
   | 2,ho=>cases ho;exact ch_ (k:=1) HC.o (ck_ 1 d_) rfl H1_ rfl hI
   | 3,ho=>cases ho;exact rk_bin HC.o rfl ⟨_,rfl⟩ (bg_ (d':=2) d_ (show (kEx _ 0).p w _ from H0_)) (show (kEx _ 2).p w _ from H2_) hI
   | 4,ho=>cases ho;exact dg_ HC.o rfl ⟨_,rfl,d_⟩ (bg_ (d':=dE) d_ (show (kEx _ 3).p w _ from H3_)) hI
   | 5,ho=>cases ho;exact bi_ (fun _ h=>h) A7 A2.o.1 A2.o.2 rfl (hout 2 d_) (show (kSt _ 0).p w _ from H4_) hI
   | q+6,ho=>exact n_ ho
  exact vf_
 ·go_upto_region 22 with fail;refine be_ (X:=(x1 X1)) (Inv:=(InvR d b lp X1 Z1 w w (ah_ (0)) pS)) (ks:=fun i=>([(kV _ (pt b)),(kStr _),(kSt _ 0),(kAny _)]:List (SK (x1 X1))).getD i (kAny _)) k_ (A5.o _ A3.o A6.o) ?_ ?_
  ·intro i o ho a w hI hout hin
   match i,ho with
   | 0,ho=>cases ho;exact M0_
   | 1,ho=>cases ho;exact bl_ (.inl rfl) (show (kStr _).p w _ from ⟨s,hout 3 d_,hs⟩) hI
   | 2,ho=>cases ho;exact rk_callm HC.o rfl H0_ (show (kStr _).p w _ from H1_) hI
   | 3,ho=>cases ho;exact bi_ (fun _ h=>h) A7 A2.o.1 A2.o.2 rfl (hout 2 d_) (show (kSt _ 0).p w _ from H2_) hI
   | q+4,ho=>exact n_ ho
  exact vf_
 ·go_upto_region 25 with fail;refine be_ (X:=(x1 X1)) (Inv:=(InvR d b lp X1 Z1 w w (ah_ (0)) pS)) (ks:=fun i=>([(kStr _),(kV _ (pt b)),(kEx _ 2),(kSt _ 0),(kAny _)]:List (SK (x1 X1))).getD i (kAny _)) k_ (A5.o _ A3.o A6.o) ?_ ?_
  ·intro i o ho a w hI hout hin
   match i,ho with
   | 0,ho=>cases ho;exact bl_ (.inl rfl) (show (kStr _).p w _ from ⟨s,hout 3 d_,hs⟩) hI
   | 1,ho=>cases ho;exact M0_
   | 2,ho=>cases ho;exact rk_pointer HC.o rfl H1_ hI
   | 3,ho=>cases ho;exact dg_ HC.o rfl (show (kStr _).p w _ from H0_) (bg_ (d':=dE) d_ (show (kEx _ 2).p w _ from H2_)) hI
   | 4,ho=>cases ho;exact bi_ (fun _ h=>h) A7 A2.o.1 A2.o.2 rfl (hout 2 d_) (show (kSt _ 0).p w _ from H3_) hI
   | q+5,ho=>exact n_ ho
  exact vf_
 ·go_upto_region 24 with fail;refine dl_ (X:=(x1 X1)) (Inv:=(InvR d b lp X1 Z1 w w (ah_ (0)) pS)) (ks:=fun i=>([(kInts _ 2),(kV _ (pt b)),(kV _ (pt b)),(kV _ (pt b)),(kV _ (pt d)),(kNat _ 2),(kPInt _),(kKind _),(kV _ (pt b)),(kEx _ 2),(kExs _ dE 1),(kSt _ 0),(kAny _)]:List (SK (x1 X1))).getD i (kAny _)) rfl k_ (A5.o _ (A3.o.below (Below.drew (b_))) (A6.o.bb_ (Below.drew (b_)))) ?_ ?_
  ·intro i o ho a w hI hout hin
   match i,ho with
   | 0,ho=>cases ho;exact rk_bsi2 HC.o rfl d_ d_ hI
   | 1,ho=>cases ho;exact M0_
   | 2,ho=>cases ho;exact bz_ rfl H1_ hI
   | 3,ho=>cases ho;exact ca_ d_ rfl H2_ hI
   | 4,ho=>cases ho;exact bk_ HC.o rfl H3_ hI
   | 5,ho=>cases ho;exact bp_ (n:=2) HC.o rfl H4_ rfl d_ d_ hI
   | 6,ho=>cases ho;exact rk_idxi (n:=2) rfl (show (kInts _ 2).p w _ from H0_) (show (kNat _ 2).p w _ from H5_) hI
   | 7,ho=>cases ho;exact rk_lint rfl (show (kPInt _).p w _ from H6_) hI
   | 8,ho=>cases ho;exact M0_
   | 9,ho=>cases ho;exact ch_ (k:=1) HC.o (ck_ 1 d_) rfl H8_ rfl hI
   | 10,ho=>cases ho;exact dq_ HC.o rfl (bg_ (d':=dE) d_ (show (kEx _ 2).p w _ from H9_)) hI
   | 11,ho=>cases ho;obtain ⟨q,hq,Am,An,Ao⟩:=(show (kKind _).p w _ from H7_);exact rk_bs_05 rfl hq (show (kExs _ dE 1).p w _ from H10_) (fun h=>absurd h An) (fun h=>absurd h Ao) (fun h=>absurd h Am) hI
   | 12,ho=>cases ho;exact bi_ (fun _ h=>h) A7 A2.o.1 A2.o.2 rfl (hout 2 d_) (show (kSt _ 0).p w _ from H11_) hI
   | q+13,ho=>exact n_ ho
  exact vf_
 go_upto_region 25 with fail;refine be_ (X:=(x1 X1)) (Inv:=(InvR d b lp X1 Z1 w w (ah_ (0)) pS)) (ks:=fun i=>([(kStr _),(kV _ (pt b)),(kEx _ 2),(kSt _ 0),(kAny _)]:List (SK (x1 X1))).getD i (kAny _)) k_ (A5.o _ A3.o A6.o) ?_ ?_
 ·intro i o ho a w hI hout hin
  match i,ho with
  | 0,ho=>cases ho;exact bl_ (.inl rfl) (show (kStr _).p w _ from ⟨s,hout 3 d_,hs⟩) hI
  | 1,ho=>cases ho;exact M0_
  | 2,ho=>cases ho;exact rk_pointer HC.o rfl H1_ hI
  | 3,ho=>cases ho;exact dg_ HC.o rfl (show (kStr _).p w _ from H0_) (bg_ (d':=dE) d_ (show (kEx _ 2).p w _ from H2_)) hI
  | 4,ho=>cases ho;exact bi_ (fun _ h=>h) A7 A2.o.1 A2.o.2 rfl (hout 2 d_) (show (kSt _ 0).p w _ from H3_) hI
  | q+5,ho=>exact n_ ho
 exact vf_
end Go.Proofs.YtfolidlmgfhkiaaGreat
