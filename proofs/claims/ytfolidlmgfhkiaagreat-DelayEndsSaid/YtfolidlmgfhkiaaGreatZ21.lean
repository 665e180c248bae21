/- Lemmas: each says what a function of the program leaves, under the conditions that it states. -/
import Derived.Test.YtfolidlmgfhkiaaGreatZ20
set_option linter.unusedVariables false
set_option linter.unusedSimpArgs false
set_option maxRecDepth 100000
set_option maxHeartbeats 8000000
namespace Go.Proofs.YtfolidlmgfhkiaaGreat
open Go.RowKit Go.Proofs.Tryz
structure FnC (w:World) (A:OA) (k:Nat) (s:ByteArray) (P:OA) (np cp:Nat) (B:OA) (nb cb g o:Nat):Prop where
 hA:A=some (f_ g o)
 lt:g<w
 k0:w.cell? ⟨g,o+k*3,none⟩=some (.string s)
 k1:w.cell? ⟨g,o+k*3+1,none⟩=some (.slice P np cp)
 k2:w.cell? ⟨g,o+k*3+2,none⟩=some (.slice B nb cb)
theorem FnC.up {w w':World} {A:OA} {k:Nat} {s:ByteArray} {P:OA} {np cp:Nat} {B:OA} {nb cb g o:Nat} (h:FnC w A k s P np cp B nb cb g o) (hb:Below w w w'):FnC w' A k s P np cp B nb cb g o:=by
 have hc:∀ j,w'.cell? (f_ g j)=w.cell? (f_ g j):=fun j=>belc hb h.lt
 exact ⟨h.hA,lt_ h.lt hb.size,(hc _).trans h.k0,(hc _).trans h.k1,(hc _).trans h.k2⟩
theorem SlT.fn {d:Nat} {X:NP} {w:World} {K:Nat} {A:OA} {n c k:Nat} (h:SlT w X K (cy_ d) A n c) (hk:k<n):∃ (s:ByteArray) (P:OA) (np cp:Nat) (B:OA) (nb cb g o:Nat),FnC w A k s P np cp B nb cb g o/\s.size<=100/\SlT w X K [.sat strP] P np cp/\SlP w X K pS (al_ d) B nb cb/\¬X g:=by
 obtain ⟨g,o,rfl,hg,hX,vs,hv,hm⟩:=h.mt hk;obtain ⟨a,r1,rfl,ha,h1⟩:=hv.head;obtain ⟨b,r2,rfl,hb,h2⟩:=h1.head;obtain ⟨x,r3,rfl,hx,h3⟩:=h2.head;obtain ⟨s,rfl,hs⟩:strP a:=by cases ha;assumption
 obtain ⟨P,np,cp,rfl,hP⟩:=hb.slice;obtain ⟨B,nb,cb,rfl,hB⟩:=hx.dj_;exact ⟨s,P,np,cp,B,nb,cb,g,o,⟨rfl,hg,by have:=hm 0 _ rfl;simpa [cy_] using this,by have:=hm 1 _ rfl;simpa [cy_] using this,by have:=hm 2 _ rfl;simpa [cy_] using this⟩,hs,hP,hB,hX⟩
theorem Shaped_t (X:NP) (K:Nat) (hK:K<=900000000) (d:Nat) (A:OA) (n c:Nat) (w:World) (h:SlT w X K (cy_ d) A n c) :
  Calls prog 159 #[.agg #[.slice A n c]] w fun e w'=>RI e/\Below w w w':=by
 obtain ⟨W,hW,A9,Ag,B0⟩:=af_ w [.slice A n c] 136;have Ae:=q_ B0;have HW:=q_ A9;have H:=q_ h;have Al:=h.le;have x0:=B0.2.1 0 _ rfl;clear B0 A9 h;go_enter func159,ntmps159;go_upto_region 1 with fail;rw [←hW];clear hW;go_cut [3] (fun v wx=>∃ b:Bool,v=.bool b/\Hid (wx=W))
 case first =>
  go_wp2;all_goals
   go_meet;exact ⟨_,rfl,q_ rfl⟩
 case rest =>
 rename World=>W1
 obtain ⟨bl,rfl,Ab⟩:=hcut;have hw:=Ab.o;subst hw;clear Ab;go_upto_region 4 with fail;clear x0;go_loopw [3,4,25] (fun b a i wr=>∃ (k:Nat) (p:Bool) (q:Int),k<=n/\b=.bool p/\a=i_ q/\i=i_ k/\Hid (Below W1 W1 wr)) (fun _ _ i _=>n - (intOf i).toNat)
 case atStart=>exact ⟨0,bl,0,o_,rfl,rfl,rfl,q_ (b_)⟩
 obtain ⟨k,p,q,Ak,rfl,rfl,rfl,HR⟩:=hrel;have A2:=q_ (HW.o.trans (HR.o.mono HW.o.size));by_cases hlt:k<n
 ·have A5:(k:Int)<(n:Int):=by omega
  obtain ⟨s,P,np,cp,B,nb,cb,g,o,Aa,hs,hP,hB,_⟩:=H.o.fn hlt;obtain ⟨rfl,hg,k0,k1,k2⟩:=Aa.up A2.o;obtain ⟨V,hV,A3,Af,B1⟩:=af_ wr [.string s,.slice P np cp,.slice B nb cb] 194;have A0:=q_ (A2.o.trans (A3.mono A2.o.size));have A6:=q_ (HR.o.trans (A3.mono HR.o.size));have KC:=h_ (∀ w',Below V V w'->(w'.cell? (a_ wr)=some (.string s)/\w'.cell? (f_ wr 1)=some (.slice P np cp)/\w'.cell? (f_ wr 2)=some (.slice B nb cb))) (fun w' hb=>⟨(B1.below hb).2.1 0 _ rfl,(B1.below hb).2.1 1 _ rfl,(B1.below hb).2.1 2 _ rfl⟩);have Ac:=hP.le;have HP:=q_ hP;have HB:=q_ hB;clear B1 A3 Aa hP hB;go_upto_region 6 with fail;rw [←hV];clear hV k0 k1 k2;obtain ⟨x0,x1,x2⟩:=KC.o V (b_);go_wp2_with fail;refine (Name05_any s V hs).mono ?_;rintro e W2 ⟨⟨b,rfl⟩,A8⟩;have H2:=q_ A8;clear x0 x1 x2 A8;obtain ⟨x0,x1,x2⟩:=KC.o W2 H2.o;cases b
  case false =>
   go_wp2;go_ret;exact ⟨⟨_,rfl⟩,A0.o.trans (H2.o.mono A0.o.size)⟩
  case true =>
  go_upto_region 9 with fail;clear x0 x1 x2;go_loopw [36] (fun i wy=>∃ j:Nat,j<=np/\i=i_ j/\Hid (Below V V wy)) (fun i _=>np - (intOf i).toNat)
  case atStart=>exact ⟨0,o_,rfl,H2⟩
  rename World=>wy
  obtain ⟨j,Aj,rfl,HY⟩:=hrel;have A7:=q_ (A0.o.trans (HY.o.mono A0.o.size));by_cases hlj:j<np
  ·have A4:(j:Int)<(np:Int):=by omega
   obtain ⟨gp,op,rfl,Ai,Ah,us,hv,hm⟩:=(HP.o.up (Kp.of_below A7.o) (l_)).mt hlj;obtain ⟨u,hu,ht⟩:=hv.2 0 (.sat strP) rfl;obtain ⟨t,rfl,Ad⟩:strP u:=by cases ht;assumption
   have y0:wy.cell? ⟨gp,op+j,none⟩=some (.string t):=by have:=hm 0 _ hu;simpa using this
   clear hv hm hu ht;go_wp2_with fail;refine (Name05_any t wy Ad).mono ?_;rintro e W3 ⟨⟨b,rfl⟩,A1⟩;have H3:=q_ (HY.o.trans (A1.mono HY.o.size));clear A1 y0;cases b
   case false =>
    go_wp2;go_ret;exact ⟨⟨_,rfl⟩,A0.o.trans (H3.o.mono A0.o.size)⟩
   go_wp2;go_roundw
   case rel=>exact ⟨j+1,o_,by go_num,H3⟩
   case measure=>simp [intOf];omega
  have A4:¬(j:Int)<(np:Int):=by omega
  obtain ⟨x0,x1,x2⟩:=KC.o wy HY.o;go_wp2_with fail;refine (measure_any X K hK d B nb cb wy (HB.o.below A7.o)).mono ?_;rintro e W3 ⟨⟨a1,b1,o1,rfl⟩,A1⟩;have H3:=q_ (HY.o.trans (A1.mono HY.o.size));clear x0 x1 x2 A1;obtain ⟨x0,x1,x2⟩:=KC.o W3 H3.o;cases o1
  case false =>
   go_wp2;go_ret;exact ⟨⟨_,rfl⟩,A0.o.trans (H3.o.mono A0.o.size)⟩
  go_wp2;all_goals
   go_roundw
   case rel=>exact ⟨k+1,_,_,o_,rfl,rfl,by go_num,q_ (A6.o.trans (H3.o.mono A6.o.size))⟩
   case measure=>simp [intOf];omega
 have A5:¬(k:Int)<(n:Int):=by omega
 go_wp2;all_goals
  go_ret;exact ⟨⟨_,rfl⟩,A2.o⟩
def nameAt (w:World) (A:OA) (q:Nat) (s:ByteArray):Prop:=∃ g o,A=some (f_ g o)/\w.cell? ⟨g,o+q*3,none⟩=some (.string s)
def RIx (n:Nat) (want:Prop) (e:Ending):Prop:=∃ r:Int,e=.returned (i_ r)/\(r=-1∨∃ k:Nat,r=k/\k<n)/\Hid (want->r≠-1)
theorem Index_t (X:NP) (K:Nat) (hK:K<=900000000) (d:Nat) (A:OA) (n c:Nat) (s:ByteArray) (w:World) (h:SlT w X K (cy_ d) A n c) :
  Calls prog 160 #[.agg #[.slice A n c],.string s] w fun e w'=>RIx n (∃ q,q<n/\nameAt w A q s) e/\Below w w w':=by
 obtain ⟨W,hW,A4,A5,B0⟩:=af_ w [.slice A n c] 136;have HW:=q_ A4;have H:=q_ h;have A7:=h.le;have x0:=B0.2.1 0 _ rfl;clear B0 A4 h;go_enter func160,ntmps160;go_upto_region 2 with fail;rw [←hW];clear hW x0;go_loopw [10] (fun i wr=>∃ k:Nat,k<=n/\i=i_ k/\Hid (Below W W wr)/\Hid ((∃ q,q<n/\nameAt w A q s)->∃ q,k<=q/\q<n/\nameAt w A q s)) (fun i _=>n - (intOf i).toNat)
 case atStart=>exact ⟨0,o_,rfl,q_ (b_),q_ (fun ⟨q,h1,h2⟩=>⟨q,Nat.zero_le _,h1,h2⟩)⟩
 obtain ⟨k,A6,rfl,HR,HN⟩:=hrel;have A0:=q_ (HW.o.trans (HR.o.mono HW.o.size));have A9:(W:Nat)<=wr:=HR.o.size;have A8:(w:Nat)<=wr:=A0.o.size;by_cases hlt:k<n
 ·have A3:(k:Int)<(n:Int):=by omega
  obtain ⟨t,P,np,cp,B,nb,cb,g,o,A2,hs,hP,hB,_⟩:=H.o.fn hlt;have HF:=q_ A2;obtain ⟨rfl,hg,k0,k1,k2⟩:=A2.up A0.o;clear A2 hP hB;have A1:(t.toList == s.toList)=true∨(t.toList == s.toList)=false:=by cases (t.toList == s.toList);exact .inr rfl;exact .inl rfl
  rcases A1 with A1 | A1
  ·go_wp2;go_ret;exact ⟨⟨_,rfl,.inr ⟨k,rfl,hlt⟩,q_ (fun _=>o_)⟩,(bel A0.o)⟩
  have HT:=q_ A1;go_wp2;go_roundw
  case rel =>
   refine ⟨k+1,o_,by go_num,q_ (bel HR.o),q_ (fun hq=>?_)⟩;obtain ⟨q,h1,h2,h3⟩:=HN.o hq;refine ⟨q,?_,h2,h3⟩;rcases Nat.lt_or_ge k q with h4 | h4
   ·exact h4
   exfalso;obtain rfl:q=k:=by omega
   obtain ⟨g',o',e1,e2⟩:=h3;injection e1 with e1;injection e1 with e3 e4;subst e3 e4;rw [HF.o.k0] at e2;injection e2 with e2;injection e2 with e2;subst e2;have:=HT.o;simp at this
  case measure=>simp [intOf];omega
 have A3:¬(k:Int)<(n:Int):=by omega
 go_wp2;go_ret;exact ⟨⟨_,rfl,.inl rfl,q_ (fun hq=>by obtain ⟨q,h1,h2,_⟩:=HN.o hq;omega)⟩,A0.o⟩
theorem ei_ins:EI prog 24 202 aw_ 40:=EI.of (z:=.agg #[i_ 0,i_ 0,i_ 0,i_ 0,i_ 0]) underlying24 k_ rfl d_
section
variable {b F N M o:Nat} {pv:Nat->Value} {qs:List Nat} {G:NP} {w w':World}
theorem GC.grown {e:List CT} {et:TypeId} {j n c:Nat} {A:OA} (h:GC b F pv qs N M o G w) (hj:(genT N F pv qs)[j]?=some (.sl e)) (ho:cu_ j=some et) (hc:w.cell? (f_ b j)=some (.slice A n c)) (hg:w.grownBy w' (Value.slice A n c).ownBlock) :
  (∀ i,i<10->w'.cell? (f_ b i)=w.cell? (f_ b i))/\(∀ i,w'.frozen? (f_ b i)=false)/\∀ q ∈ qs,w'.cell? (a_ q)=w.cell? (a_ q)/\w'.frozen? (a_ q)=false:=by
 obtain ⟨C,f,_⟩:=h;obtain ⟨A2,n2,c2,g1,g2,_⟩:=f.own (i:=0) rfl hj ho;rw [hc] at g1;injection g1 with g1;injection g1 with q1 q2 q3;subst q1 q2 q3;have hb:=f.cv_ (i:=0) rfl hj ho g2 hg;refine ⟨fun i hi=>?_,hb.2.2,fun q hq=>?_⟩
 ·have A0:i<(C b).length:=by rw [f.len (i:=0) rfl];exact hi
  rw [f.cell (i:=0) rfl (ge_ A0),hb.2.1 i _ (ge_ A0)]
 obtain ⟨i,hi⟩:=mem_at (b:=b) (F:=F) (pv:=pv) (N:=N) hq rfl;have A1:=f.grown_any (i:=0) rfl hj ho g2 hg i _ hi;have A0:0<(C q).length:=by rw [f.len hi];simp
 exact ⟨by rw [f.cell hi (ge_ A0)];exact A1.2.1 0 _ (ge_ A0),A1.2.2 0⟩
theorem lit_ins {Y:NP} {K:Nat} (x0 x1 x2 x3 x4:Int) (h:¬Y w) (hK:1<=K):SlT (w.alloc (.cells #[i_ x0,i_ x1,i_ x2,i_ x3,i_ x4] 202)) Y K aw_ (some (a_ w)) 1 1 :=
 SlT.lit1 (VTs.cons (.num _) (VTs.cons (.num _) (VTs.cons (.num _) (VTs.cons (.num _) (VTs.cons (.num _) VTs.nil))))) 202 h hK
end
theorem dx_ {w:World} {base:Nat} {et:TypeId} {e:List CT} {X:NP} {K m c g:Nat} (h:OwT w base et e X K (some (a_ g)) m c) (k j:Nat) {t:CT} (hk:k<m) (hj:e[j]?=some t):(∃ u,w.cell? ⟨g,k*e.length+j,none⟩=some u)/\∀ q,w.frozen? (f_ g q)=false:=by
 obtain ⟨xs,ho,hx⟩:=h;obtain ⟨u,hu,_⟩:=hx k j t hk hj;have A1:j<e.length:=(e_ hj).1;have A0:k*e.length+j<m*e.length:=by
  have:(k+1)*e.length<=m*e.length:=Nat.mul_le_mul_right _ hk;rw [Nat.add_mul] at this;omega
 exact ⟨⟨u,by rw [ho.cellAt _ A0];exact hu⟩,fun q=>ho.frozenAt q⟩
def putX (b N:Nat) (w:World):NP:=fun k=>k=b∨∃ A c,w.cell? (f_ b 1)=some (.slice A N c)/\(Value.slice A N c).ownBlock=some k
def RPut (b F:Nat) (pv:Nat->Value) (qs:List Nat) (N o:Nat) (G:NP) (w:World) (e:Ending) (w':World):Prop:=e=.returned (i_ (N:Int))/\∃ G',Hid (GC b F pv qs (N+1) (N+1) o G' w')/\Hid (Up w G w' G')/\Hid (KpC b qs 1 w w')/\Hid (Kp (putX b N w) w w')
theorem bq_ (b F:Nat) (pv:Nat->Value) (qs:List Nat) (N o:Nat) (G:NP) (w:World) (h:GC b F pv qs N N o G w) (hN:N<=10000000000) (x0 x1 x2 x3 x4:Int) :
  Calls prog 112 #[.pointer (some (a_ b)),i_ x0,i_ x1,i_ x2,i_ x3,i_ x4] w fun e w'=>RPut b F pv qs N o G w e w':=by
 have h1:=h.raise (N':=N+1) o_;obtain ⟨A,n,c,hc,hn,hO,hG,A9,_⟩:=h1.own (j:=1) rfl rfl;obtain rfl:n=N:=A9 rfl;have A0:Below w w (w.alloc (.cells #[i_ x0,i_ x1,i_ x2,i_ x3,i_ x4] 202)):=(b_).alloc (l_) _;have H1:=q_ (h1.below A0);have HB:=q_ A0;have A4:=h.blt;have A7:(w.alloc (.cells #[i_ x0,i_ x1,i_ x2,i_ x3,i_ x4] 202)).cell? (f_ b 1)=some (.slice A n c):=(belc A0 A4).trans hc;have A1:=q_ A7;have HO:=h_ (OwT (w.alloc (.cells #[i_ x0,i_ x1,i_ x2,i_ x3,i_ x4] 202)) 0 202 aw_ G (n+2) A n c) (hO.below A0);have HU:=h_ (SlT (w.alloc (.cells #[i_ x0,i_ x1,i_ x2,i_ x3,i_ x4] 202)) (Wi G (Value.slice A n c).ownBlock) (n+2) aw_ (some (a_ w)) 1 1) (lit_ins x0 x1 x2 x3 x4 (fun hx=>by
  rcases hx with hx | hx
  ·exact Nat.lt_irrefl _ (h.lt _ hx)
  exact Nat.lt_irrefl _ (h.lt _ (hG _ hx))) o_)
 have A3:=q_ h.lt;have Ab:=q_ hc;clear h h1 hO hG A0 A7 A9;go_enter func112,ntmps112;go_upto_region 2 with (at_builtin;refine cs_ rfl _ _ rfl ei_ins (by simp [Act.eval]) HO.o (by simp [Act.eval]) HU.o (fun k hk=>by have:=A3.o k hk;simp;omega) m_ o_ (Nat.zero_le _) ?_;intro A5 c5 w5 o5 g5 l5;have O5:=q_ o5;have G5:=q_ g5;have L5:=q_ l5;have A2:=q_ (H1.o.grown (j:=1) rfl rfl A1.o g5);have y1:=(A2.o.1 1 o_).trans A1.o;have fy:=A2.o.2.1;clear o5 g5 l5 hc);obtain ⟨G2,g2,u2,k2⟩:=H1.o.grow (j:=1) rfl rfl A1.o O5.o (show n+1<=n+2 by omega) G5.o L5.o;obtain ⟨A6,n6,c6,Ad,_,_,_,A8,_⟩:=g2.own (j:=1) rfl rfl;obtain rfl:n6=n+1:=A8 rfl;have P2:=h_ (Kp (putX b n w) w (w5.setCell (f_ b 1) (.slice A5 (n+1) c5))) ((((Kp.refl _ w).alloc _).grown G5.o (fun k hk=>.inl (.inr ⟨A,c,Ab.o,hk⟩))).setCell (p:=(f_ b 1)) (.inl (.inl rfl)) _);obtain ⟨U,hU⟩:=ex_ (w5.setCell (f_ b 1) (.slice A5 (n+1) c5));rw [←hU] at g2 u2 k2 Ad P2 ⊢;have Aa:=q_ g2;have U2:=q_ ((Up.of_below HB.o).trans u2);have K2:=h_ (KpC b qs 1 w U) (⟨fun q hq=>(k2.1 q hq).trans ((belc HB.o (by obtain ⟨_,_,_,_,_,_,_,_,Ac,_⟩:=H1.o.at_own hq;exact A3.o _ Ac))),fun i hi Ae=>(k2.2 i hi Ae).trans (belc HB.o A4)⟩);clear g2 u2 k2 hU y1 fy A8;go_wp2;go_ret;exact ⟨by simp,G2,by simpa using Aa,U2,K2,P2⟩
def RG (b F:Nat) (pv:Nat->Value) (qs:List Nat) (N o:Nat) (G:NP) (w:World) (k:Nat) (w':World):Prop:=∃ G' qs' N',Hid (GC b F pv qs' N' N' o G' w')/\(∀ q ∈ qs,q ∈ qs')/\N<=N'/\N'<=N+k/\Hid (Up w G w' G')
theorem fa_ (b F:Nat) (pv:Nat->Value) (qs:List Nat) (N o:Nat) (G:NP) (w:World) (h:GC b F pv qs N N o G w) (s:ByteArray) :
  Calls prog 193 #[.pointer (some (a_ b)),.string s] w fun e w'=>RI e/\Below w w w':=by
 obtain ⟨v,x6,hv⟩:=h.cell (j:=6) rfl rfl;obtain ⟨A,n,c,rfl,hs⟩:=hv.slice;have HS:=q_ hs;have hn:=hs.le;have hn:n<=900000000:=hn;clear hs hv h;go_enter func193,ntmps193;go_upto_region 2 with fail;clear x6;go_loopw [12] (fun i wr=>∃ k:Nat,k<=n/\i=i_ k/\Hid (wr=w)) (fun i _=>n - (intOf i).toNat)
 case atStart=>exact ⟨0,o_,rfl,q_ rfl⟩
 obtain ⟨k,hk,rfl,A1⟩:=hrel;have hw:=A1.o.symm;subst hw;clear A1;by_cases hlt:k<n
 ·have A0:(k:Int)<(n:Int):=by omega
  obtain ⟨g,o,rfl,hg,hX,vs,hv,hm⟩:=HS.o.mt hlt;obtain ⟨u,hu,ht⟩:=hv.2 0 .txt rfl;obtain ⟨t,rfl⟩:=ht.str;have c0:w.cell? ⟨g,o+k,none⟩=some (.string t):=by have:=hm 0 _ hu;simpa using this
  clear hv hm hu ht;go_wp2;all_goals first
   | (go_ret;exact ⟨⟨_,rfl⟩,(bel (b_))⟩)
   | (go_roundw
      case rel=>exact ⟨k+1,o_,by go_num,q_ (by trivial)⟩
      case measure=>simp [intOf];omega)
 have A0:¬(k:Int)<(n:Int):=by omega
 go_wp2;go_ret;exact ⟨⟨_,rfl⟩,(bel (b_))⟩
theorem mark_g (b F:Nat) (pv:Nat->Value) (qs:List Nat) (N o:Nat) (G:NP) (w:World) (h:GC b F pv qs N N o G w) (hN:N<=10000000000) :
  Calls prog 110 #[.pointer (some (a_ b))] w fun e w'=>e=.returned (i_ (N:Int))/\RG b F pv qs N o G w 1 w':=by
 obtain ⟨v,x2,hv⟩:=h.cell (j:=2) rfl rfl;obtain ⟨m,rfl⟩:=hv.int;have fz:=h.fz 2;obtain ⟨g1,u1,k1⟩:=h.set (j:=2) (v:=i_ (wrap64 (m+1))) rfl rfl (.num _);have H1:=q_ g1;have U1:=q_ u1;clear hv h g1 u1 k1;go_enter func110,ntmps110;go_wp2_with (go_at_call 112;refine (bq_ b F pv qs N o G _ H1.o hN _ _ _ _ _).mono ?_;rintro e w1 ⟨rfl,G2,h2,u2,k2⟩);go_ret;exact ⟨rfl,G2,qs,N+1,h2,fun _ h=>h,o_,o_,q_ (U1.o.trans u2.o)⟩
theorem more_g (b F:Nat) (pv:Nat->Value) (qs:List Nat) (N o:Nat) (G:NP) (w:World) (h:GC b F pv qs N N o G w) :
  Calls prog 195 #[.pointer (some (a_ b))] w fun e w'=>RI e/\RG b F pv qs N o G w 0 w':=by
 obtain ⟨v,x7,hv⟩:=h.cell (j:=7) rfl rfl;obtain ⟨m,rfl⟩:=hv.int;have fz:=h.fz 7;have A3:=h.fz 8;obtain ⟨g1,u1,k1⟩:=h.set (j:=7) (v:=i_ (wrap64 (m+1))) rfl rfl (.num _);obtain ⟨U,hU⟩:=ex_ (w.setCell (f_ b 7) (i_ (wrap64 (m+1))));rw [←hU] at g1 u1;have H1:=q_ g1;have U1:=q_ u1;clear hv h g1 u1 k1;go_enter func195,ntmps195;go_upto_region 2 with fail;rw [←hU];clear hU x7 fz A3;obtain ⟨v,x7,A1⟩:=H1.o.cell (j:=7) rfl rfl;obtain ⟨m7,rfl⟩:=A1.int;obtain ⟨v,x8,A2⟩:=H1.o.cell (j:=8) rfl rfl;obtain ⟨m8,rfl⟩:=A2.int;obtain ⟨v,x6,A0⟩:=H1.o.cell (j:=6) rfl rfl;obtain ⟨A,n,c,rfl,hs⟩:=A0.slice;have fz:=H1.o.fz 8;clear A1 A2 A0 hs;go_cut [] (fun wx=>Hid (GC b F pv qs N N o G wx)/\Hid (Up w G wx G))
 case first =>
  go_region_law fail;all_goals
   obtain ⟨g2,u2,_⟩:=(H1.o.below (w':=U.drew) (Below.drew (b_))).set (j:=8) (v:=i_ (max m8 m7)) rfl rfl (.num _);have H2:=q_ g2;have U2:=q_ (U1.o.trans ((Up.of_below (Below.drew (b_))).trans u2));clear g2 u2;go_wp2_with fail;go_meet;exact ⟨H2,U2⟩
 rename World=>wx
 obtain ⟨H2,U2⟩:=hcut;clear x6 x7 x8 fz;obtain ⟨v,x7,A1⟩:=H2.o.cell (j:=7) rfl rfl;obtain ⟨m7,rfl⟩:=A1.int;obtain ⟨v,x6,A0⟩:=H2.o.cell (j:=6) rfl rfl;obtain ⟨A,n,c,rfl,hs⟩:=A0.slice;clear A1 A0 hs;go_upto_region 3 with fail;go_quiet (fail);go_wp2;go_ret;exact ⟨⟨_,rfl⟩,G,qs,N,q_ (H2.o.below (bel (b_))),fun _ h=>h,l_,o_,q_ (U2.o.trans (Up.of_below (bel (b_))))⟩
def Pl (w:World) (b N:Nat) (A:OA) (n:Nat):Prop:=∀ j,j<n->∃ g o i:Nat,A=some (f_ g o)/\g<w/\w.cell? ⟨g,o+j,none⟩=some (i_ (i:Int))/\i<N/\∀ g' M c',w.cell? (f_ b 1)=some (.slice (some (a_ g')) M c')->g≠g'
theorem here_g (b F:Nat) (pv:Nat->Value) (qs:List Nat) (N o:Nat) (G:NP) (w:World) (h:GC b F pv qs N N o G w) (hN:N<=10000000000) (A:OA) (n c:Nat) (hn:n<=10000000001) (hp:Pl w b N A n) :
  Calls prog 194 #[.pointer (some (a_ b)),.slice A n c] w fun e w'=>e=.returned (.tuple #[])/\Hid (GC b F pv qs N N o G w')/\Hid (Up w G w' G):=by
 have H:=q_ h;have HP:=q_ hp;obtain ⟨L,ln,lc,hc,Ad,hO,hG,A6,_⟩:=h.own (j:=1) rfl rfl;obtain rfl:ln=N:=A6 rfl;have HO:=q_ hO;have HC:=q_ hc;clear h hp hO hc A6;go_enter func194,ntmps194;go_upto_region 1 with fail;go_loopw [8] (fun i wr=>∃ k:Nat,k<=n/\i=i_ k/\Hid (GC b F pv qs ln ln o G wr)/\Hid (Up w G wr G)/\Hid (KpC b qs 10 w wr)/\Hid (∀ g,(Value.slice L ln lc).ownBlock=some g->Kp (fun q=>q=g) w wr)) (fun i _=>n - (intOf i).toNat)
 case atStart=>exact ⟨0,o_,rfl,H,q_ (Up.refl _ _),q_ ⟨fun _ _=>rfl,fun _ _ _=>rfl⟩,q_ (fun g _=>Kp.refl _ _)⟩
 obtain ⟨k,Ac,rfl,HR,UR,KR,PR⟩:=hrel;by_cases hlt:k<n
 ·have A1:(k:Int)<(n:Int):=by omega
  obtain ⟨g,oo,i,rfl,hg,A4,hi,hne⟩:=HP.o k hlt;obtain ⟨gl,rfl,_,A9,_⟩:=dr_ HO.o.choose_spec.1 o_;have A7:g≠gl:=hne gl _ _ HC.o;have y0:wr.cell? ⟨g,oo+k,none⟩=some (i_ (i:Int)):=((PR.o gl rfl).cell hg A7).trans A4;have x1:wr.cell? (f_ b 1)=some (.slice (some (a_ gl)) ln lc):=(KR.o.2 1 o_ o_).trans HC.o;have Ab:(i:Int)<(ln:Int):=by omega
  have Aa:¬(i:Int)<0:=by omega
  obtain ⟨A2,n2,c2,A0,_,A3,_,A8,_⟩:=HR.o.own (j:=1) rfl rfl;rw [x1] at A0;injection A0 with A0;injection A0 with q1 q2 q3;subst q1 q2 q3;obtain ⟨⟨u4,y4⟩,fy⟩:=dx_ A3 i 4 hi rfl;have y4:wr.cell? ⟨gl,i*5+4,none⟩=some u4:=y4;clear A3 A8 A4 hne;go_upto_region 3 with fail;go_region_law fail;all_goals
   obtain ⟨g2,u2,k2⟩:=(HR.o.below (w':=wr.drew) (Below.drew (b_))).patch (g:=gl) (c:=lc) (k:=i) (q:=4) (n:=(ln:Int)) x1 hi o_ ⟨gl,i*5+4,none⟩ rfl;have H2:=q_ g2;have U2:=q_ ((Up.of_below (Below.drew (Below.refl wr wr))).trans u2);have K2:=h_ (KpC b qs 10 wr _) k2;clear g2 u2 k2;go_wp2_with fail;go_roundw
   case rel=>exact ⟨k+1,o_,by go_num,H2,q_ (UR.o.trans U2.o),q_ ⟨fun q hq=>(K2.o.1 q hq).trans (KR.o.1 q hq),fun i hi A5=>(K2.o.2 i hi A5).trans (KR.o.2 i hi A5)⟩,q_ (fun g hg=>by injection hg with hg;subst hg;exact ((PR.o gl rfl).drew).setCell (p:=⟨gl,i*5+4,none⟩) (.inl rfl) _)⟩
   case measure=>simp [intOf];omega
 have A1:¬(k:Int)<(n:Int):=by omega
 go_wp2_with fail;refine end0 rfl rfl ?_;exact ⟨rfl,HR,UR⟩
section
variable {b F N N1 o k k1 k2:Nat} {pv:Nat->Value} {qs qs1:List Nat} {G G1:NP} {w w1 w2:World}
theorem RG.seq (u:Up w G w1 G1) (hq:∀ q ∈ qs,q ∈ qs1) (h1:N<=N1) (h2:N1<=N+k1) (h:RG b F pv qs1 N1 o G1 w1 k2 w2):RG b F pv qs N o G w (k1+k2) w2:=by
 obtain ⟨G',A1,N',g1,g2,g3,g4,g5⟩:=h;exact ⟨G',A1,N',g1,fun q A0=>g2 q (hq q A0),o_,o_,q_ (u.trans g5.o)⟩
theorem RG.more {k':Nat} (h:RG b F pv qs N o G w k w2) (hk:k<=k'):RG b F pv qs N o G w k' w2:=by
 obtain ⟨G',A0,N',g1,g2,g3,g4,g5⟩:=h;exact ⟨G',A0,N',g1,g2,g3,o_,g5⟩
theorem RG.put {e:Ending} (h:RPut b F pv qs N o G w e w1):RG b F pv qs N o G w 1 w1:=by
 obtain ⟨_,G',h1,h2,_⟩:=h;exact ⟨G',qs,N+1,h1,fun _ h=>h,o_,o_,h2⟩
theorem RG.zero (h:GC b F pv qs N N o G w1) (u:Up w G w1 G):RG b F pv qs N o G w 0 w1:=⟨G,qs,N,q_ h,fun _ h=>h,l_,l_,q_ u⟩
end
def ce:Nat->Nat
 | 0=>1
 | d+1=>1+2*ce d
structure ExB (w:World) (b:Nat) (kd n:Int) (s:ByteArray) (op:Int) (A:OA) (m c:Nat):Prop where
 y0:w.cell? (a_ b)=some (i_ kd)
 y1:w.cell? (f_ b 1)=some (i_ n)
 y2:w.cell? (f_ b 2)=some (.string s)
 y3:w.cell? (f_ b 3)=some (i_ op)
 y4:w.cell? (f_ b 4)=some (.slice A m c)
structure ExE (w:World) (A:OA) (k:Nat) (kd n:Int) (s:ByteArray) (op:Int) (B:OA) (m c g o:Nat):Prop where
 hA:A=some (f_ g o)
 lt:g<w
 y0:w.cell? ⟨g,o+k*5,none⟩=some (i_ kd)
 y1:w.cell? ⟨g,o+k*5+1,none⟩=some (i_ n)
 y2:w.cell? ⟨g,o+k*5+2,none⟩=some (.string s)
 y3:w.cell? ⟨g,o+k*5+3,none⟩=some (i_ op)
 y4:w.cell? ⟨g,o+k*5+4,none⟩=some (.slice B m c)
theorem ExE.up {w w':World} {A:OA} {k:Nat} {kd n:Int} {s:ByteArray} {op:Int} {B:OA} {m c g o:Nat} {G G':NP} (h:ExE w A k kd n s op B m c g o) (u:Up w G w' G') (hg:¬G g):ExE w' A k kd n s op B m c g o:=by
 have hc:∀ j,w'.cell? (f_ g j)=w.cell? (f_ g j):=fun j=>u.kp.cell h.lt hg
 exact ⟨h.hA,lt_ h.lt u.kp.size,(hc _).trans h.y0,(hc _).trans h.y1,(hc _).trans h.y2,(hc _).trans h.y3,(hc _).trans h.y4⟩
theorem SlP.ex {d:Nat} {X:NP} {w:World} {K:Nat} {A:OA} {n c k:Nat} (h:SlP w X K pE (ay_ d) A n c) (hk:k<n):∃ (kd nn:Int) (s:ByteArray) (op:Int) (B:OA) (m c' g o:Nat),ExE w A k kd nn s op B m c' g o/\¬X g/\VTs w X K (ay_ d) [i_ kd,i_ nn,.string s,i_ op,.slice B m c']/\pE [i_ kd,i_ nn,.string s,i_ op,.slice B m c']:=by
 obtain ⟨g,o,us,rfl,hg,hX,hu,A0,hc⟩:=h.el hk;have A1:=A0;obtain ⟨A2,n',s',A3,A',m',c',rfl,_,_,_⟩:=A0;rw [dz_] at hc;exact ⟨A2,n',s',A3,A',m',c',g,o,⟨rfl,hg,hc 0 _ rfl,hc 1 _ rfl,hc 2 _ rfl,hc 3 _ rfl,hc 4 _ rfl⟩,hX,hu,A1⟩
def ExC (b F:Nat) (pv:Nat->Value) (o cst:Nat) (w:World) (G:NP) (v:Value):Prop:=∀ (w':World) (G':NP) (qs':List Nat) (N':Nat) (r:Int),GC b F pv qs' N' N' o G' w'->Up w G w' G'->N'+cst<=10000000000->Calls prog 192 #[.pointer (some (a_ b)),v,i_ r] w' fun e w''=>e=.returned (.tuple #[])/\RG b F pv qs' N' o G' w' cst w''
theorem expr_step (b F:Nat) (pv:Nat->Value) (o cst:Nat) (qs:List Nat) (N:Nat) (G:NP) (w:World) (h:GC b F pv qs N N o G w) (kd n:Int) (s:ByteArray) (op:Int) (A:OA) (m c:Nat) (r:Int) (hN:N+(1+2*cst)<=10000000000) (h4:kd=4->1<=m) (h5:kd=5->2<=m)
  (hk:∀ k,k<m->∃ (kd' n':Int) (s':ByteArray) (op':Int) (A':OA) (m' c' g o':Nat),ExE w A k kd' n' s' op' A' m' c' g o'/\¬G g/\ExC b F pv o cst w G (.agg #[i_ kd',i_ n',.string s',i_ op',.slice A' m' c'])) :
  Calls prog 192 #[.pointer (some (a_ b)),.agg #[i_ kd,i_ n,.string s,i_ op,.slice A m c],i_ r] w fun e w'=>e=.returned (.tuple #[])/\RG b F pv qs N o G w (1+2*cst) w':=by
 obtain ⟨W,hW,A4,Ae,B0⟩:=af_ w [i_ kd,i_ n,.string s,i_ op,.slice A m c] 209;have U0:Up w G W G:=Up.of_below A4;have HU:=q_ U0;have H:=q_ (h.below A4);have Ab:¬G w:=fun hx=>Nat.lt_irrefl _ (h.lt _ hx)
 have KC:=h_ (∀ (w':World) (G':NP),Up W G w' G'->ExB w' w kd n s op A m c) (fun w' G' u=>by
  have hc:∀ j,w'.cell? (f_ w j)=W.cell? (f_ w j):=fun j=>u.kp.cell o_ Ab
  exact ⟨(hc _).trans (B0.2.1 0 _ rfl),(hc _).trans (B0.2.1 1 _ rfl),(hc _).trans (B0.2.1 2 _ rfl),(hc _).trans (B0.2.1 3 _ rfl),(hc _).trans (B0.2.1 4 _ rfl)⟩)
 have HK:=q_ hk;obtain ⟨x0,x1,x2,x3,x4⟩:=KC.o W G (Up.refl _ _);clear B0 A4 Ae h hk U0 Ab;go_enter func192,ntmps192;go_upto_region 1 with fail;rw [←hW];clear hW;by_cases hk1:kd=1
 ·subst hk1;go_wp2_with (go_at_call 112;refine (bq_ b F pv qs N o G W H.o o_ _ _ _ _ _).mono ?_;rintro e w1 hp;obtain rfl:=hp.1;have R1:=q_ (RG.put hp);clear hp);refine end0 rfl rfl ?_;exact ⟨rfl,(RG.seq (k1:=0) HU.o (fun _ h=>h) (l_) (l_) R1.o).more o_⟩
 by_cases hk2:kd=2
 ·subst hk2;go_wp2_with (go_at_call 112;refine (bq_ b F pv qs N o G W H.o o_ _ _ _ _ _).mono ?_;rintro e w1 hp;obtain rfl:=hp.1;have R1:=q_ (RG.put hp);clear hp);refine end0 rfl rfl ?_;exact ⟨rfl,(RG.seq (k1:=0) HU.o (fun _ h=>h) (l_) (l_) R1.o).more o_⟩
 by_cases hk3:kd=3
 ·subst hk3;go_wp2_with fail;refine (fa_ b F pv qs N o G W H.o s).mono ?_;rintro e W1 ⟨⟨vi,rfl⟩,A1⟩;have H1:=q_ (H.o.below A1);have U1:=q_ (HU.o.trans (Up.of_below A1));clear A1 x0 x1 x2 x3 x4;go_wp2_with (go_at_call 112;refine (bq_ b F pv qs N o G W1 H1.o o_ _ _ _ _ _).mono ?_;rintro e w1 hp;obtain rfl:=hp.1;have R1:=q_ (RG.put hp);clear hp);refine end0 rfl rfl ?_;exact ⟨rfl,(RG.seq (k1:=0) U1.o (fun _ h=>h) (l_) (l_) R1.o).more o_⟩
 by_cases hk4:kd=4
 ·subst hk4;have Ai:(0:Int)<(m:Int):=by have:=h4 rfl;omega
  obtain ⟨kd',n',s',op',A',m',c',g,o',hE,hg,hC⟩:=HK.o 0 o_;obtain ⟨rfl,Ag,z0,z1,z2,z3,z4⟩:=hE.up HU.o hg;simp only [Nat.zero_mul,Nat.add_zero] at z0 z1 z2 z3 z4;have HC:=q_ hC;clear hE hC;go_wp2_with fail;refine (HC.o W G qs N r H.o HU.o o_).mono ?_;rintro e W1 ⟨rfl,G1,A7,N1,H1,A6,A9,Aa,U1⟩;clear x0 x1 x2 x3 x4 z0 z1 z2 z3 z4;obtain ⟨x0,x1,x2,x3,x4⟩:=KC.o W1 G1 U1.o;go_wp2_with (go_at_call 112;refine (bq_ b F pv A7 N1 o G1 W1 H1.o o_ _ _ _ _ _).mono ?_;rintro e w1 hp;obtain rfl:=hp.1;have R1:=q_ (RG.put hp);clear hp);refine end0 rfl rfl ?_;exact ⟨rfl,(RG.seq (k1:=cst) (HU.o.trans U1.o) A6 A9 Aa R1.o).more o_⟩
 by_cases hk5:kd=5
 ·subst hk5;have Al:(0:Int)<(m:Int):=by have:=h5 rfl;omega
  have Ai:(1:Int)<(m:Int):=by have:=h5 rfl;omega
  obtain ⟨kd',n',s',op',A',m',c',g,o',hE,hg,hC⟩:=HK.o 0 o_;obtain ⟨Ao,n2,s2,Ap,A2,m2,c2,g2,o2,A3,A5,A8⟩:=HK.o 1 o_;obtain ⟨hA,Ag,z0,z1,z2,z3,z4⟩:=hE.up HU.o hg;subst hA;simp only [Nat.zero_mul,Nat.add_zero] at z0 z1 z2 z3 z4;have Ad:=q_ (A3.up HU.o A5);have Af:=(A3.up HU.o A5).lt;have HC:=q_ hC;have Ac:=q_ A8;clear hE hC A3 A8;go_wp2_with fail;refine (HC.o W G qs N r H.o HU.o o_).mono ?_;rintro e W1 ⟨rfl,G1,A7,N1,H1,A6,A9,Aa,U1⟩;clear x0 x1 x2 x3 x4 z0 z1 z2 z3 z4;obtain ⟨x0,x1,x2,x3,x4⟩:=KC.o W1 G1 U1.o;obtain ⟨A0,Ah,z0,z1,z2,z3,z4⟩:=Ad.o.up U1.o A5;injection A0 with A0;injection A0 with e1 e2 e3;subst e1 e2;simp only [Nat.one_mul] at z0 z1 z2 z3 z4;go_wp2_with fail;refine (Ac.o W1 G1 A7 N1 _ H1.o (HU.o.trans U1.o) o_).mono ?_;rintro e W2 ⟨rfl,G2,Ak,N2,H2,Aj,Am,An,U2⟩;clear x0 x1 x2 x3 x4 z0 z1 z2 z3 z4;obtain ⟨x0,x1,x2,x3,x4⟩:=KC.o W2 G2 (U1.o.trans U2.o);go_wp2_with (go_at_call 112;refine (bq_ b F pv Ak N2 o G2 W2 H2.o o_ _ _ _ _ _).mono ?_;rintro e w1 hp;obtain rfl:=hp.1;have R1:=q_ (RG.put hp);clear hp);refine end0 rfl rfl ?_;exact ⟨rfl,(RG.seq (k1:=cst+cst) ((HU.o.trans U1.o).trans U2.o) (fun q hq=>Aj q (A6 q hq)) o_ o_ R1.o).more o_⟩
 by_cases hk6:kd=6
 ·subst hk6;go_wp2_with (go_at_call 112;refine (bq_ b F pv qs N o G W H.o o_ _ _ _ _ _).mono ?_;rintro e w1 hp;obtain rfl:=hp.1;have R1:=q_ (RG.put hp);clear hp);refine end0 rfl rfl ?_;exact ⟨rfl,(RG.seq (k1:=0) HU.o (fun _ h=>h) (l_) (l_) R1.o).more o_⟩
 go_wp2;refine end0 rfl rfl ?_;exact ⟨rfl,(RG.zero H.o HU.o).more o_⟩
theorem expr_g (b F:Nat) (pv:Nat->Value) (o:Nat):∀ (d:Nat) (vs:VL) (w:World) (G:NP),VTs w G 20 (ay_ d) vs->pE vs->ExC b F pv o (ce d) w G (.agg vs.toArray)
 | 0,vs,w,G,hv,hp=>fun w' G' A0 N' r hg u hN=>by
  obtain ⟨kd,n,s,op,A,c,rfl⟩:=hv.expr0;obtain ⟨_,_,_,_,_,m',_,e,h4,h5,_⟩:=hp;injection e with e0 e;injection e with e1 e;injection e with e2 e;injection e with e3 e;injection e with e4 e;injection e0 with _ e0;injection e4 with _ e4 _;subst e0 e4;exact (expr_step b F pv o 0 A0 N' G' w' hg _ _ _ _ _ _ _ _ (by show N'+1<=_;exact hN) h4 h5 (fun k hk=>o_))
 | d+1,vs,w,G,hv,hp=>fun w' G' A0 N' r hg u hN=>by
  have A2:=hv.go u (l_);obtain ⟨kd,n,s,op,A,m,c,rfl,A1⟩:=A2.expr;obtain ⟨_,_,_,_,_,_,_,e,h4,h5,_⟩:=hp;injection e with e0 e;injection e with e1 e;injection e with e2 e;injection e with e3 e;injection e with e4 e;injection e0 with _ e0;injection e4 with _ e4 _;subst e0 e4;refine expr_step b F pv o (ce d) A0 N' G' w' hg _ _ _ _ _ _ _ _ hN h4 h5 (fun k hk=>?_);obtain ⟨A3,nn,s',A4,B,m',c',g,o',h1,h2,h3,h4⟩:=A1.ex hk;exact ⟨A3,nn,s',A4,B,m',c',g,o',h1,h2,expr_g b F pv o d _ w' G' h3 h4⟩
end Go.Proofs.YtfolidlmgfhkiaaGreat
