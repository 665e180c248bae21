/- Lemmas on functions of the program, under the conditions that each states. -/
import Derived.Test.YtfolidlmgfhkiaaGreatV14
import Derived.Maps.Own
set_option linter.unusedVariables false
set_option linter.unusedSimpArgs false
set_option maxRecDepth 100000
set_option maxHeartbeats 8000000
namespace Go.Proofs.YtfolidlmgfhkiaaGreat
open Go.RowKit Go.Proofs.Tryz
theorem ei_ins:EI prog 24 202 aw_ 40:=EI.of (z:=.agg #[i_ 0,i_ 0,i_ 0,i_ 0,i_ 0]) underlying24 k_ rfl d_
section
variable {b F N M o:Nat} {pv:Nat->Value} {qs:List Nat} {G:NP} {w w':World}
theorem GC.grown {e:List CT} {et:TypeId} {j n c:Nat} {A:OA} (h:GC b F pv qs N M o G w) (hj:(genT N F pv qs)[j]?=some (.sl e)) (ho:genOw j=some et) (hc:w.cell? (f_ b j)=some (.slice A n c)) (hg:w.grownBy w' (Value.slice A n c).ownBlock) :
  (∀ i,i<10->w'.cell? (f_ b i)=w.cell? (f_ b i))/\(∀ i,w'.frozen? (f_ b i)=false)/\∀ q ∈ qs,w'.cell? (a_ q)=w.cell? (a_ q)/\w'.frozen? (a_ q)=false:=by
 obtain ⟨C,f,_⟩:=h;obtain ⟨A2,n2,c2,g1,g2,_⟩:=f.own (i:=0) rfl hj ho;rw [hc] at g1;injection g1 with g1;injection g1 with q1 q2 q3;subst q1 q2 q3;have hb:=f.cv_ (i:=0) rfl hj ho g2 hg;refine ⟨fun i hi=>?_,hb.2.2,fun q hq=>?_⟩
 ·have A0:i<(C b).length:=by rw [f.len (i:=0) rfl];exact hi
  rw [f.cell (i:=0) rfl (ge_ A0),hb.2.1 i _ (ge_ A0)]
 obtain ⟨i,hi⟩:=mem_at (b:=b) (F:=F) (pv:=pv) (N:=N) hq rfl;have A1:=f.grown_any (i:=0) rfl hj ho g2 hg i _ hi;have A0:0<(C q).length:=by rw [f.len hi];simp
 exact ⟨by rw [f.cell hi (ge_ A0)];exact A1.2.1 0 _ (ge_ A0),A1.2.2 0⟩
theorem lit_ins {Y:NP} {K:Nat} (x0 x1 x2 x3 x4:Int) (h:¬Y w) (hK:1<=K):SlT (w.alloc (.cells #[i_ x0,i_ x1,i_ x2,i_ x3,i_ x4] 202)) Y K aw_ (some (a_ w)) 1 1 :=
 SlT.lit1 (VTs.cons (.num _) (VTs.cons (.num _) (VTs.cons (.num _) (VTs.cons (.num _) (VTs.cons (.num _) VTs.nil))))) 202 h hK
end
theorem dv_ {w:World} {base:Nat} {et:TypeId} {e:List CT} {X:NP} {K m c g:Nat} (h:OwT w base et e X K (some (a_ g)) m c) (k j:Nat) {t:CT} (hk:k<m) (hj:e[j]?=some t):(∃ u,w.cell? ⟨g,k*e.length+j,none⟩=some u)/\∀ q,w.frozen? (f_ g q)=false:=by
 obtain ⟨xs,ho,hx⟩:=h;obtain ⟨u,hu,_⟩:=hx k j t hk hj;have A1:j<e.length:=(e_ hj).1;have A0:k*e.length+j<m*e.length:=by
  exact v1_
 exact ⟨⟨u,wm_⟩,fun q=>ho.frozenAt q⟩
def putX (b N:Nat) (w:World):NP:=fun k=>k=b\/∃ A c,w.cell? (f_ b 1)=some (.slice A N c)/\(Value.slice A N c).ownBlock=some k
def RPut (b F:Nat) (pv:Nat->Value) (qs:List Nat) (N o:Nat) (G:NP) (w:World) (e:Ending) (w':World):Prop:=e=.returned (i_ (N:Int))/\∃ G',Hid (GC b F pv qs (N+1) (N+1) o G' w')/\Hid (Up w G w' G')/\Hid (KpC b qs 1 w w')/\Hid (Kp (putX b N w) w w')
theorem bv_ (b F:Nat) (pv:Nat->Value) (qs:List Nat) (N o:Nat) (G:NP) (w:World) (h:GC b F pv qs N N o G w) (hN:N<=10000000000) (x0 x1 x2 x3 x4:Int) :
  Calls prog 112 #[.pointer (some (a_ b)),i_ x0,i_ x1,i_ x2,i_ x3,i_ x4] w fun e w'=>RPut b F pv qs N o G w e w':=by
 have h1:=h.raise (N':=N+1) o_;obtain ⟨A,n,c,hc,hn,hO,hG,A9,_⟩:=h1.own (j:=1) rfl rfl;obtain rfl:n=N:=A9 rfl;have A0:Below w w (w.alloc (.cells #[i_ x0,i_ x1,i_ x2,i_ x3,i_ x4] 202)):=(b_).alloc (l_) _;have H1:=q_ (h1.below A0);have HB:=q_ A0;have A4:=h.blt;have A7:(w.alloc (.cells #[i_ x0,i_ x1,i_ x2,i_ x3,i_ x4] 202)).cell? (f_ b 1)=some (.slice A n c):=(belc A0 A4).trans hc;have A1:=q_ A7;have HO:=h_ (OwT (w.alloc (.cells #[i_ x0,i_ x1,i_ x2,i_ x3,i_ x4] 202)) 0 202 aw_ G (n+2) A n c) (hO.below A0);have HU:=h_ (SlT (w.alloc (.cells #[i_ x0,i_ x1,i_ x2,i_ x3,i_ x4] 202)) (Wi G (Value.slice A n c).ownBlock) (n+2) aw_ (some (a_ w)) 1 1) (lit_ins x0 x1 x2 x3 x4 (fun hx=>by
  rcases hx with hx | hx
  ·exact Nat.lt_irrefl _ (h.lt _ hx)
  exact Nat.lt_irrefl _ (h.lt _ (hG _ hx))) o_)
 have A3:=q_ h.lt;have Ab:=q_ hc;clear h h1 hO hG A0 A7 A9;go_enter func112,ntmps112;go_upto_region 2 with (at_builtin;refine cs_ rfl _ _ rfl ei_ins zc_ HO.o zc_ HU.o (fun k hk=>by have:=A3.o k hk;simp;omega) m_ o_ (Nat.zero_le _) ?_;intro A5 c5 w5 o5 g5 l5;have O5:=q_ o5;have G5:=q_ g5;have L5:=q_ l5;have A2:=q_ (H1.o.grown (j:=1) rfl rfl A1.o g5);have y1:=(A2.o.1 1 o_).trans A1.o;have fy:=A2.o.2.1;clear o5 g5 l5 hc);obtain ⟨G2,g2,u2,k2⟩:=H1.o.grow (j:=1) rfl rfl A1.o O5.o (show n+1<=n+2 by omega) G5.o L5.o;obtain ⟨A6,n6,c6,Ad,_,_,_,A8,_⟩:=g2.own (j:=1) rfl rfl;obtain rfl:n6=n+1:=A8 rfl;have P2:=h_ (Kp (putX b n w) w (w5.setCell (f_ b 1) (.slice A5 (n+1) c5))) ((((Kp.refl _ w).alloc _).grown G5.o (fun k hk=>.inl (.inr ⟨A,c,Ab.o,hk⟩))).setCell (p:=(f_ b 1)) (.inl (.inl rfl)) _);obtain ⟨U,hU⟩:=ex_ (w5.setCell (f_ b 1) (.slice A5 (n+1) c5));rw [<-hU] at g2 u2 k2 Ad P2 ⊢;have Aa:=q_ g2;have U2:=q_ ((Up.of_below HB.o).trans u2);have K2:=h_ (KpC b qs 1 w U) (⟨fun q hq=>(k2.1 q hq).trans ((belc HB.o (by obtain ⟨_,_,_,_,_,_,_,_,Ac,_⟩:=H1.o.at_own hq;exact A3.o _ Ac))),fun i hi Ae=>(k2.2 i hi Ae).trans (belc HB.o A4)⟩);clear g2 u2 k2 hU y1 fy A8;go_wp2;go_ret;exact ⟨zj_,G2,by simpa using Aa,U2,K2,P2⟩
def RG (b F:Nat) (pv:Nat->Value) (qs:List Nat) (N o:Nat) (G:NP) (w:World) (k:Nat) (w':World):Prop:=∃ G' qs' N',Hid (GC b F pv qs' N' N' o G' w')/\(∀ q ∈ qs,q ∈ qs')/\N<=N'/\N'<=N+k/\Hid (Up w G w' G')
theorem ev_ (b F:Nat) (pv:Nat->Value) (qs:List Nat) (N o:Nat) (G:NP) (w:World) (h:GC b F pv qs N N o G w) (s:ByteArray) :
  Calls prog 193 #[.pointer (some (a_ b)),.string s] w fun e w'=>RI e/\Below w w w':=by
 obtain ⟨v,x6,hv⟩:=h.cell (j:=6) rfl rfl;obtain ⟨A,n,c,rfl,hs⟩:=hv.slice;have HS:=q_ hs;have hn:=hs.le;have hn:n<=900000000:=hn;clear hs hv h;go_enter func193,ntmps193;go_upto_region 2 with fail;clear x6;go_loopw [12] (fun i wr=>∃ k:Nat,k<=n/\i=i_ k/\Hid (wr=w)) (fun i _=>n - (intOf i).toNat)
 case atStart=>exact ⟨0,o_,rfl,q_ rfl⟩
 obtain ⟨k,hk,rfl,A1⟩:=hrel;have hw:=A1.o.symm;subst hw;clear A1;by_cases hlt:k<n
 ·have A0:(k:Int)<(n:Int):=by omega
  obtain ⟨g,o,rfl,hg,hX,vs,hv,hm⟩:=HS.o.mt hlt;obtain ⟨u,hu,ht⟩:=hv.2 0 .txt rfl;obtain ⟨t,rfl⟩:=ht.str;have c0:w.cell? ⟨g,o+k,none⟩=some (.string t):=by have:=hm 0 _ hu;simpa using this
  clear hv hm hu ht;go_wp2;all_goals first
   | (go_ret;exact ⟨⟨_,rfl⟩,(bel (b_))⟩)
   | (go_roundw
      case rel=>exact ⟨k+1,o_,zb_,q_ ww_⟩
      case measure=>exact me_)
 have A0:¬(k:Int)<(n:Int):=by omega
 exact to_
theorem mark_g (b F:Nat) (pv:Nat->Value) (qs:List Nat) (N o:Nat) (G:NP) (w:World) (h:GC b F pv qs N N o G w) (hN:N<=10000000000) :
  Calls prog 110 #[.pointer (some (a_ b))] w fun e w'=>e=.returned (i_ (N:Int))/\RG b F pv qs N o G w 1 w':=by
 obtain ⟨v,x2,hv⟩:=h.cell (j:=2) rfl rfl;obtain ⟨m,rfl⟩:=hv.int;have fz:=h.fz 2;obtain ⟨g1,u1,k1⟩:=h.set (j:=2) (v:=i_ (wrap64 (m+1))) rfl rfl (.num _);have H1:=q_ g1;have U1:=q_ u1;clear hv h g1 u1 k1;go_enter func110,ntmps110;go_wp2_with (go_at_call 112;refine (bv_ b F pv qs N o G _ H1.o hN _ _ _ _ _).mono ?_;rintro e w1 ⟨rfl,G2,h2,u2,k2⟩);go_ret;exact ⟨rfl,G2,qs,N+1,h2,fun _ h=>h,o_,o_,q_ (U1.o.trans u2.o)⟩
theorem more_g (b F:Nat) (pv:Nat->Value) (qs:List Nat) (N o:Nat) (G:NP) (w:World) (h:GC b F pv qs N N o G w) :
  Calls prog 195 #[.pointer (some (a_ b))] w fun e w'=>RI e/\RG b F pv qs N o G w 0 w':=by
 obtain ⟨v,x7,hv⟩:=h.cell (j:=7) rfl rfl;obtain ⟨m,rfl⟩:=hv.int;have fz:=h.fz 7;have A3:=h.fz 8;obtain ⟨g1,u1,k1⟩:=h.set (j:=7) (v:=i_ (wrap64 (m+1))) rfl rfl (.num _);obtain ⟨U,hU⟩:=ex_ (w.setCell (f_ b 7) (i_ (wrap64 (m+1))));rw [<-hU] at g1 u1;have H1:=q_ g1;have U1:=q_ u1;clear hv h g1 u1 k1;go_enter func195,ntmps195;go_upto_region 2 with fail;rw [<-hU];clear hU x7 fz A3;obtain ⟨v,x7,A1⟩:=H1.o.cell (j:=7) rfl rfl;obtain ⟨m7,rfl⟩:=A1.int;obtain ⟨v,x8,A2⟩:=H1.o.cell (j:=8) rfl rfl;obtain ⟨m8,rfl⟩:=A2.int;obtain ⟨v,x6,A0⟩:=H1.o.cell (j:=6) rfl rfl;obtain ⟨A,n,c,rfl,hs⟩:=A0.slice;have fz:=H1.o.fz 8;clear A1 A2 A0 hs;go_cut [] (fun wx=>Hid (GC b F pv qs N N o G wx)/\Hid (Up w G wx G))
 case first =>
  go_region_law fail;all_goals
   obtain ⟨g2,u2,_⟩:=(H1.o.below (w':=U.drew) (Below.drew (b_))).set (j:=8) (v:=i_ (max m8 m7)) rfl rfl (.num _);have H2:=q_ g2;have U2:=q_ (U1.o.trans ((Up.of_below (Below.drew (b_))).trans u2));clear g2 u2;go_wp2_with fail;go_meet;exact ⟨H2,U2⟩
 rename World=>wx
 obtain ⟨H2,U2⟩:=hcut;clear x6 x7 x8 fz;obtain ⟨v,x7,A1⟩:=H2.o.cell (j:=7) rfl rfl;obtain ⟨m7,rfl⟩:=A1.int;obtain ⟨v,x6,A0⟩:=H2.o.cell (j:=6) rfl rfl;obtain ⟨A,n,c,rfl,hs⟩:=A0.slice;clear A1 A0 hs;go_upto_region 3 with fail;go_quiet (fail);go_wp2;go_ret;exact ⟨⟨_,rfl⟩,G,qs,N,q_ (H2.o.below (bel (b_))),fun _ h=>h,l_,o_,q_ (U2.o.trans (Up.of_below (bel (b_))))⟩
def Pl (w:World) (b N:Nat) (A:OA) (n:Nat):Prop:=∀ j,j<n->∃ g o i:Nat,A=some (f_ g o)/\g<w/\w.cell? ⟨g,o+j,none⟩=some (i_ (i:Int))/\i<N/\∀ g' M c',w.cell? (f_ b 1)=some (.slice (some (a_ g')) M c')->g≠g'
theorem here_g (b F:Nat) (pv:Nat->Value) (qs:List Nat) (N o:Nat) (G:NP) (w:World) (h:GC b F pv qs N N o G w) (hN:N<=10000000000) (A:OA) (n c:Nat) (hn:n<=10000000001) (hp:Pl w b N A n) :
  Calls prog 194 #[.pointer (some (a_ b)),.slice A n c] w fun e w'=>e=.returned (.tuple #[])/\Hid (GC b F pv qs N N o G w')/\Hid (Up w G w' G):=by
 have H:=q_ h;have HP:=q_ hp;obtain ⟨L,ln,lc,hc,Ad,hO,hG,A6,_⟩:=h.own (j:=1) rfl rfl;obtain rfl:ln=N:=A6 rfl;have HO:=q_ hO;have HC:=q_ hc;clear h hp hO hc A6;go_enter func194,ntmps194;go_upto_region 1 with fail;go_loopw [8] (fun i wr=>∃ k:Nat,k<=n/\i=i_ k/\Hid (GC b F pv qs ln ln o G wr)/\Hid (Up w G wr G)/\Hid (KpC b qs 10 w wr)/\Hid (∀ g,(Value.slice L ln lc).ownBlock=some g->Kp (fun q=>q=g) w wr)) (fun i _=>n - (intOf i).toNat)
 case atStart=>exact ⟨0,o_,rfl,H,q_ (Up.refl _ _),q_ ⟨fun _ _=>rfl,fun _ _ _=>rfl⟩,q_ (fun g _=>Kp.refl _ _)⟩
 obtain ⟨k,Ac,rfl,HR,UR,KR,PR⟩:=hrel;by_cases hlt:k<n
 ·have A1:(k:Int)<(n:Int):=by omega
  obtain ⟨g,oo,i,rfl,hg,A4,hi,hne⟩:=HP.o k hlt;obtain ⟨gl,rfl,_,A9,_⟩:=dp_ HO.o.choose_spec.1 o_;have A7:g≠gl:=hne gl _ _ HC.o;have y0:wr.cell? ⟨g,oo+k,none⟩=some (i_ (i:Int)):=((PR.o gl rfl).cell hg A7).trans A4;have x1:wr.cell? (f_ b 1)=some (.slice (some (a_ gl)) ln lc):=(KR.o.2 1 o_ o_).trans HC.o;have Ab:(i:Int)<(ln:Int):=by omega
  have Aa:¬(i:Int)<0:=by omega
  obtain ⟨A2,n2,c2,A0,_,A3,_,A8,_⟩:=HR.o.own (j:=1) rfl rfl;rw [x1] at A0;injection A0 with A0;injection A0 with q1 q2 q3;subst q1 q2 q3;obtain ⟨⟨u4,y4⟩,fy⟩:=dv_ A3 i 4 hi rfl;have y4:wr.cell? ⟨gl,i*5+4,none⟩=some u4:=y4;clear A3 A8 A4 hne;go_upto_region 3 with fail;go_region_law fail;all_goals
   obtain ⟨g2,u2,k2⟩:=(HR.o.below (w':=wr.drew) (Below.drew (b_))).patch (g:=gl) (c:=lc) (k:=i) (q:=4) (n:=(ln:Int)) x1 hi o_ ⟨gl,i*5+4,none⟩ rfl;have H2:=q_ g2;have U2:=q_ ((Up.of_below (Below.drew (Below.refl wr wr))).trans u2);have K2:=h_ (KpC b qs 10 wr _) k2;clear g2 u2 k2;go_wp2_with fail;go_roundw
   case rel=>exact ⟨k+1,o_,zb_,H2,q_ (UR.o.trans U2.o),q_ ⟨fun q hq=>(K2.o.1 q hq).trans (KR.o.1 q hq),fun i hi A5=>(K2.o.2 i hi A5).trans (KR.o.2 i hi A5)⟩,q_ (fun g hg=>by injection hg with hg;subst hg;exact ((PR.o gl rfl).drew).setCell (p:=⟨gl,i*5+4,none⟩) (.inl rfl) _)⟩
   case measure=>exact me_
 have A1:¬(k:Int)<(n:Int):=by omega
 go_wp2_with fail;refine end0 rfl rfl ?_;exact ⟨rfl,HR,UR⟩
theorem frame_m {X Z Y:NP} {w0:World} {LL:List LV} {b K L:Nat} {l:List In} {pc:Int} {C:Nat->VL} (w:World) (h:OneS X Z w0 LL b K L l pc Y C w) (hK:K<=1000000000) (hL:L<=100000) :
  Calls prog 171 #[.pointer (some (a_ b))] w fun e w'=>(∃ f n:Int,e=.returned (.tuple #[i_ f,i_ n]))/\Ms X Z w0 LL b K (L+1) l pc Y C w w' (fun j=>j≠72/\j≠81):=by
 have HS:=q_ h;clear h;go_enter func171,ntmps171;go_wp2_with fail;refine (root_m w HS.o hK).mono ?_;rintro e W1 ⟨rfl,Y1,C1,h1,u1,q1,j1⟩;have H1:=q_ h1;have U1:=q_ u1;have Q1:=q_ q1;have J1:=q_ j1;obtain ⟨bk,A4,_⟩:=h1.fr.tru (i:=0) rfl (j:=81) rfl rfl;clear h1 u1 q1 j1;cases bk
 case true =>
  go_wp2;refine bodyPost_ret (results_tmp2 za_ _ _ _) rfl ?_;exact ⟨⟨_,_,rfl⟩,Y1,C1,H1.o.raise (Nat.le_succ L),U1.o,Q1.o,fun j hj=>J1.o j hj.2⟩
 go_wp2_with fail;refine (ds_ W1 H1.o hK hL 1 0).mono ?_;rintro e W2 ⟨⟨v,rfl⟩,Y2,C2,h2,u2,q2,j2⟩;obtain ⟨V,hV,A3,A9,V0⟩:=af_ W2 [.bool v.ref,i_ v.n] 38;have H2:=q_ (h2.call A3);have U2:=q_ ((U1.o.trans u2).trans (Up.of_below A3));have Q2:=h_ (∀ q,q≠b->q<w->C2 q=C q) (fun q hq A1=>(q2 q hq (lt_ A1 U1.o.kp.size)).trans (Q1.o q hq A1));have J2:=h_ (∀ j,(j≠72/\j≠81)->(C2 b)[j]?=(C b)[j]?) (fun j hj=>(j2 j hj).trans (J1.o j hj.2));have Ad:b<W2:=h2.fr.blt (i:=0) rfl;obtain ⟨HA,hn,hc,Ac,hH,_⟩:=H2.o.fr.slc (i:=0) rfl (j:=36) (e:=objT) rfl rfl;have HH:=h_ (SlT V Y2 K objT HA hn hc) hH;have A6:=q_ V0;have v0:=V0.2.1 0 _ rfl;have v1:=V0.2.1 1 _ rfl;have Ag:(W2:Nat)<V:=by omega
 have Aa:b<V:=by omega
 have KH:=h_ (∀ w',Below V V w'->SlT w' Y2 K objT HA hn hc) (fun w' hb=>HH.o.go (.of_below hb) (l_));have A5:=h_ (Below V V V.drew) (Below.drew (b_));have A2:=h_ (Below V V (V.drew.alloc (.cells #[i_ 0,.slice none 0 0] 90))) ((Below.drew (b_)).alloc (l_) _);have HZ:=h_ (Bx (V.drew.alloc (.cells #[i_ 0,.slice none 0 0] 90)) V [i_ 0,.slice none 0 0]) (Bx.new V.drew [i_ 0,.slice none 0 0] 90);clear h2 u2 q2 j2 A3 A9 V0 hH A4;go_upto_region 5 with fail;rw [<-hV];clear hV;go_cut [5,6] (fun p ok wx=>∃ (q:Nat) (oi:Int) (oA:OA) (on oc:Nat) (ob:Bool),p=.pointer (some (a_ q))/\ok=.bool ob/\V<=q/\Hid (Bx wx q [i_ oi,.slice oA on oc])/\Hid (Below V V wx))
 case first =>
  go_region_law (first
   | (go_simp;go_at_call 133;refine (Get_t Y2 K HA hn hc v.n V.drew (KH.o _ A5.o) o_).mono ?_;rintro e S ⟨⟨oi,oA,on,oc,ob,rfl⟩,hS⟩;have BS:=h_ (Below V V S) (A5.o.trans hS);clear hS)
   | (go_simp;go_at_call 133;refine (Get_t Y2 K HA hn hc v.n (V.drew.alloc (.cells #[.int .i64 0,.slice none 0 0] 90)) (KH.o _ A2.o) o_).mono ?_;rintro e S ⟨⟨oi,oA,on,oc,ob,rfl⟩,hS⟩;have BS:=h_ (Below V V S) (A2.o.trans (hS.mono A2.o.size));have BZ:=q_ (HZ.o.below hS);have z0:=BZ.o.2.1 0 _ rfl;have z1:=BZ.o.2.1 1 _ rfl;have zf:=BZ.o.2.2;clear hS))
  all_goals
   go_wp2_with fail;go_meet;first
    | exact ⟨_,oi,oA,on,oc,ob,rfl,rfl,BS.o.size,q_ (Bx.new S [.int .i64 oi,.slice oA on oc] _),q_ (BS.o.alloc BS.o.size _)⟩
    | exact ⟨V,oi,oA,on,oc,ob,rfl,rfl,l_,q_ ((BZ.o.set 0 _).set 1 _),q_ ((BS.o.setCell (l_) _).setCell (l_) _)⟩
 obtain ⟨q,oi,oA,on,oc,ob,rfl,rfl,hq,hB,A0⟩:=hcut;have H3:=q_ (H2.o.call A0.o);have y0:=(A6.o.below A0.o).2.1 0 _ rfl;have y1:=(A6.o.below A0.o).2.1 1 _ rfl;have b0:=hB.o.2.1 0 _ rfl;have b1:=hB.o.2.1 1 _ rfl;obtain ⟨bk,A4,A7⟩:=H3.o.fr.tru (i:=0) rfl (j:=81) rfl rfl;have A8:=q_ A7;have fb:=H3.o.fr.fz (i:=0) rfl;have Ae:q≠b:=by omega
 have Af:W2≠b:=by omega
 clear A7 v0 v1 Ac;obtain ⟨vr,vn⟩:=v;go_upto_region 6 with fail;go_cut [] (fun wx=>∃ nb:Bool,Hid (bk=true->nb=true)/\wx=wc.setCell (f_ b 81) (.bool nb))
 case first =>
  cases bk <;> cases ob <;> cases vr
  all_goals
   go_wp2_with fail;all_goals
    go_meet;first
     | exact ⟨_,q_ (fun _=>rfl),rfl⟩
     | exact ⟨_,q_ (fun h=>nomatch h),rfl⟩
 obtain ⟨nb,Ab,rfl⟩:=hcut;have M:=q_ (H3.o.set81 A8.o nb Ab.o);clear A4 fb;go_wp2_with fail;go_quiet (fail);go_wp2;refine bodyPost_ret (results_tmp2 za_ _ _ _) rfl ?_;obtain ⟨Y4,C4,h4,u4,q4,j4⟩:=M.o;exact ⟨⟨_,_,rfl⟩,Y4,C4,h4.call (below_drewN (b_) _),((U2.o.trans (.of_below A0.o)).trans u4).drewN _,fun q hq A1=>(q4 q hq (lt_ A1 (U2.o.trans (.of_below A0.o)).kp.size)).trans (Q2.o q hq A1),fun j hj=>(j4 j hj.2).trans (J2.o j hj)⟩
theorem wpList_put {P:Program} {w w':World} {ops:Array Oper} {rest:List Oper} {o:Oper} {a:Act} {Q:Exit->Act->World->Prop} (hg:o.guard=none) (m x v:Operand) (t:TypeId) (hop:o.op=Op.mapUpdate t m x v) (vm vx vv:Value) (hm:a.eval m=vm) (hx:a.eval x=vx) (hv:a.eval v=vv)
  (hr:(Instr.mapUpdate t vm vx vv).run P w=.ok () w') (h:wpList P ops Q rest (a.put o.dst undef) w'):wpList P ops Q (o :: rest) a w:=by
 refine wpList_plain hg fun K' A0=>?_
 unfold Oper.wp;simp [execOp,hop,hm,hx,hv,hr,Result.andThen];exact A0 _ _ h
theorem Check_t (X:NP) (K:Nat) (A:OA) (n c:Nat) (L:Nat) (vs:VL) (w:World) (h:SlT w X K objT A n c) (hK:K<=4398046510976) (ht:VTs w X L ae_ vs) (hL:L<=4398046510976) :
  Calls prog 82 #[.agg #[.slice A n c],.agg vs.toArray] w fun e w'=>RN e/\Below w w w':=by
 obtain ⟨W,hW,A3,AH,B0,B1⟩:=cb_ w [.slice A n c] 35 vs 65;obtain ⟨st,Am⟩:=ht.num (j:=42) rfl;obtain ⟨DA,dn,dc,Al,hd⟩:=ht.slc (j:=40) (e:=bj_) rfl;obtain ⟨NA,nn,nc,Ak,Au⟩:=ht.slc (j:=39) (e:=objT) rfl;obtain ⟨WA,wn,wc,Aj,Av⟩:=ht.slc (j:=38) (e:=ap_) rfl;have H:=q_ (h.up (Kp.of_below A3) (l_));have HT:=q_ (ht.up (Kp.of_below A3) (l_));have HD:=q_ (hd.up (Kp.of_below A3) (l_));have HN:=q_ (Au.up (Kp.of_below A3) (l_));have HR:=q_ (Av.up (Kp.of_below A3) (l_));have HW:=q_ A3;have KS:=h_ (∀ w',Below W W w'->(w'.cell? (a_ w)=some (.slice A n c)/\w'.cell? (f_ (w+1) 40)=some (.slice DA dn dc)/\w'.cell? (f_ (w+1) 39)=some (.slice NA nn nc)/\w'.cell? (f_ (w+1) 38)=some (.slice WA wn wc)/\Below w w w')) (fun w' hb =>
  ⟨(B0.below hb).2.1 0 _ rfl,(B1.below hb).2.1 40 _ Al,(B1.below hb).2.1 39 _ Ak,(B1.below hb).2.1 38 _ Aj,A3.trans (hb.mono A3.size)⟩)
 have BT:=q_ B1;have IT:=h_ ((prog.info? 65).map (·.size)=some vs.length) (by rw [ht.1];exact au_);have AK:=B1.2.1 42 _ Am;have AS:(w:Nat)+1<W:=by omega
 clear h ht hd Au Av B0 B1 A3 AH Am Al Ak Aj;go_enter func82,ntmps82;go_upto_region 1 with fail;rw [<-hW];clear hW;by_cases hst:st=2\/st=3
 case neg =>
  have s2:¬st=2:=fun h=>hst (.inl h)
  have s3:¬st=3:=fun h=>hst (.inr h)
  have b2:@bne Int (@instBEqOfDecidableEq Int Int.instDecidableEq) st 2=true:=by show (!decide (st=2))=true;simp [s2]
  have b3:@bne Int (@instBEqOfDecidableEq Int Int.instDecidableEq) st 3=true:=by show (!decide (st=3))=true;simp [s3]
  clear hst;go_wp2;go_ret;exact ⟨⟨_,rfl⟩,HW.o⟩
 obtain ⟨a0,_⟩:=KS.o W (b_);rcases hst with rfl | rfl
 all_goals
  go_wp2_with (with_reducible refine ac_ rfl 65 (.tmp 3) rfl _ underlying65 rfl v_ BT.o.whole IT.o ?_);refine (Reads21_t X K A n c L vs W H.o hK HT.o hL).mono ?_;rintro e S ⟨⟨x,b,rfl⟩,hS⟩;obtain ⟨xi,xf,xr,xn⟩:=x;have HS:=q_ hS;clear hS a0 AK;cases b
  case false =>
   go_wp2;go_ret;have hsz:=HS.o.size;exact ⟨⟨_,rfl⟩,(KS.o S HS.o).2.2.2.2.alloc o_ _⟩
  obtain ⟨T,hT,Ap,AG,T0⟩:=af_ S [i_ xi,i_ xf,.bool xr,i_ xn] 87;have Ai:=h_ (Below W W T) (HS.o.trans (Ap.mono HS.o.size));obtain ⟨_,AE,_⟩:=KS.o T Ai.o;clear Ap AG T0;go_upto_region 4 with fail;rw [<-hT];clear hT;go_upto_region 7 with fail;clear AE;have AL:=HD.o.le;have AQ:=HN.o.le;have AR:=HR.o.le;go_loopw [39] (fun i wr=>∃ k:Nat,k<=dn/\i=i_ k/\Below W W wr) (fun i _=>dn - (intOf i).toNat)
  case atStart=>exact ⟨0,o_,rfl,Ai.o⟩
  obtain ⟨k,hk,rfl,hb⟩:=hrel;have Aw:=hb.size;have HB:=q_ hb;by_cases hlt:k<dn
  ·have Ae:(k:Int)<(dn:Int):=by omega
   obtain ⟨g,o,rfl,hg,y,hy⟩:=HD.o.delta_at hlt;obtain ⟨c0,c1,c2,c3,c4⟩:=hy wr hb;obtain ⟨V,hV,A1,Aq,V0⟩:=af_ wr [i_ y.id,i_ y.field,i_ y.op,.bool y.ref,i_ y.n] 174;have A0:=h_ (Below W W V) (hb.trans (A1.mono Aw));obtain ⟨a0,_⟩:=KS.o V A0.o;have v0:=V0.2.1 0 _ rfl;have v1:=V0.2.1 1 _ rfl;clear hy hb A1 V0;go_upto_region 9 with fail;rw [<-hV];clear hV c0 c1 c2 c3 c4;go_wp2_with fail;refine (Read_t X K A n c y.id y.field V (H.o.up (Kp.of_below A0.o) (l_)) o_).mono ?_;rintro e R ⟨⟨⟨vr,vn⟩,ok,rfl⟩,hR⟩;obtain ⟨Q,hQ,A4,Ao,Q0⟩:=af_ R [.bool vr,i_ vn] 38;have A2:=h_ (Below W W Q) (A0.o.trans ((hR.trans (A4.mono hR.size)).mono A0.o.size));have q0:=Q0.2.1 0 _ rfl;have HF:=q_ (KS.o Q A2.o).2.2.2.2;clear hR A4 Q0 a0 v0 v1;go_upto_region 10 with fail;rw [<-hQ];clear hQ;go_wp2;all_goals first
    | (go_ret;exact ⟨⟨_,rfl⟩,HF.o⟩)
    | (go_roundw
       case rel=>exact ⟨k+1,o_,zb_,A2.o⟩
       case measure=>exact me_)
  have Ae:¬(k:Int)<(dn:Int):=by omega
  have AO:=@run_makeMap prog;have Ad:cy_ (wr.alloc (.map #[] 0)) wr:=cy_.made wr;have Az:=q_ Ad;have Ah:=h_ (Below W W (wr.alloc (.map #[] 0))) (hb.alloc Aw _);obtain ⟨_,_,AD,_⟩:=KS.o _ Ah.o;obtain ⟨mb,Af⟩:=ex_ (wr:Nat);have AA:=h_ (cy_ (wr.alloc (.map #[] 0)) mb) (by rw [Af];exact Ad);have AP:W<=mb:=by omega
  clear Ad;go_upto_region 15 with fail;rw [<-Af];clear Af AD Az;go_loopw [63] (fun i wr=>∃ k:Nat,k<=nn/\i=i_ k/\Hid (cy_ wr mb)/\Below W W wr) (fun i _=>nn - (intOf i).toNat)
  case atStart=>exact ⟨0,o_,rfl,AA,Ah.o⟩
  rename World=>w1
  obtain ⟨k1,AM,rfl,hM,A6⟩:=hrel;have AI:=A6.size;have Ag:=q_ A6;by_cases hlt1:k1<nn
  ·have A8:(k1:Int)<(nn:Int):=by omega
   obtain ⟨g,o,rfl,hg,y,_,_,hy⟩:=HN.o.obj_at hlt1;obtain ⟨c0,c1⟩:=hy w1 A6;obtain ⟨V,hV,A1,Aq,V0⟩:=af_ w1 [i_ y.id,.slice y.A y.n y.c] 90;have A0:=h_ (Below W W V) (A6.trans (A1.mono AI));have HV:=q_ V0;have Ac:=q_ (hM.o.below A1);obtain ⟨a0,_⟩:=KS.o V A0.o;have v0:=V0.2.1 0 _ rfl;clear hy A6 A1 V0;go_upto_region 17 with fail;rw [<-hV];clear hV c0 c1;go_wp2_with fail;refine (Get_t X K A n c y.id V (H.o.up (Kp.of_below A0.o) (l_)) o_).mono ?_;rintro e R ⟨⟨oi,oA,on,oc,ob,rfl⟩,hR⟩;obtain ⟨Q,hQ,A4,Ao,Q0⟩:=af_ R [i_ oi,.slice oA on oc] 90;have A5:=h_ (Below V V Q) (hR.trans (A4.mono hR.size));have A2:=h_ (Below W W Q) (A0.o.trans (A5.o.mono A0.o.size));have v0:=(HV.o.below A5.o).2.1 0 _ rfl;have Ab:=q_ (Ac.o.below A5.o);have HF:=q_ (KS.o Q A2.o).2.2.2.2;clear hR A4 Q0 a0;go_upto_region 18 with fail;rw [<-hQ];clear hQ;cases ob
   case true =>
    go_wp2;go_ret;exact ⟨⟨_,rfl⟩,HF.o⟩
   obtain ⟨Z,Aa,An,Ar⟩:=Ab.o.put y.id true;have AB:=q_ An;have Ay:=h_ (Below W W Z) (A2.o.trans (aj_ Ar A2.o.size (fun k hk=>by injection hk with hk;omega)));have HP:=q_ Aa;clear Aa An Ar;go_wp2_with (at_mapUpdate;refine wpList_put rfl _ _ _ _ rfl _ _ _ w_ w_ w_ HP.o ?_);go_roundw
   case rel=>exact ⟨k1+1,o_,zb_,AB,Ay.o⟩
   case measure=>exact me_
  have A8:¬(k1:Int)<(nn:Int):=by omega
  obtain ⟨_,_,_,AC,_⟩:=KS.o _ Ag.o;go_upto_region 23 with fail;clear AC;go_loopw [82] (fun i wr=>∃ k:Nat,k<=wn/\i=i_ k/\Hid (cy_ wr mb)/\Below W W wr) (fun i _=>wn - (intOf i).toNat)
  case atStart=>exact ⟨0,o_,rfl,hM,Ag.o⟩
  rename World=>w2
  obtain ⟨k2,AN,rfl,AF,A7⟩:=hrel;have AJ:=A7.size;have Ax:=q_ A7;by_cases hlt2:k2<wn
  ·have A9:(k2:Int)<(wn:Int):=by omega
   obtain ⟨g,o,rfl,hg,y,hy⟩:=HR.o.dr_ hlt2;obtain ⟨c0,c1,c2,c3⟩:=hy w2 A7;obtain ⟨V,hV,A1,Aq,V0⟩:=af_ w2 [i_ y.id,i_ y.field,.bool y.ref,i_ y.n] 87;have A0:=h_ (Below W W V) (A7.trans (A1.mono AJ));have HV:=q_ V0;have Ac:=q_ (AF.o.below A1);obtain ⟨a0,_⟩:=KS.o V A0.o;have v0:=V0.2.1 0 _ rfl;have v1:=V0.2.1 1 _ rfl;clear hy A7 A1 V0;go_upto_region 25 with fail;rw [<-hV];clear hV c0 c1 c2 c3;go_wp2_with fail;refine (Read_t X K A n c y.id y.field V (H.o.up (Kp.of_below A0.o) (l_)) o_).mono ?_;rintro e R ⟨⟨⟨vr,vn⟩,ok,rfl⟩,hR⟩;obtain ⟨Q,hQ,A4,Ao,Q0⟩:=af_ R [.bool vr,i_ vn] 38;have A5:=h_ (Below V V Q) (hR.trans (A4.mono hR.size));have A2:=h_ (Below W W Q) (A0.o.trans (A5.o.mono A0.o.size));have v0:=(HV.o.below A5.o).2.1 0 _ rfl;have Ab:=q_ (Ac.o.below A5.o);obtain ⟨lt,As⟩:=Ab.o.look y.id;have HF:=q_ (KS.o Q A2.o).2.2.2.2;clear hR A4 Q0 a0 v1;go_upto_region 26 with fail;rw [<-hQ];clear hQ;cases ok <;> cases lt
   all_goals
    go_wp2;first
     | (go_ret;exact ⟨⟨_,rfl⟩,HF.o⟩)
     | (go_roundw
        case rel=>exact ⟨k2+1,o_,zb_,Ab,A2.o⟩
        case measure=>exact me_)
  have A9:¬(k2:Int)<(wn:Int):=by omega
  go_wp2;go_ret;exact ⟨⟨_,rfl⟩,(KS.o _ Ax.o).2.2.2.2⟩
end Go.Proofs.YtfolidlmgfhkiaaGreat
namespace Go.Proofs.YtfolidlmgfhkiaaGreat
open Go.RowKit
section
variable {P:Program} {w:World} {t ty et:TypeId} {bytes:Nat} {p:VL->Prop} {e:List CT} {X Y:NP} {K base n m c d:Nat} {A B:OA}
theorem app_full (ty:TypeId) (E:EI P t et e bytes) (hown:OwP w base et p e X K A n c) (hsrc:SlP w X K p e B m d) (hf:m=0\/c<n+m) (hX:∀ k,X k->k<w) (h63:n+m<=maxLen) (hbytes:(n+m)*bytes<=140737488355328) (hbase:base<=w) :
  ∃ A' c' w',(Builtin.append_ #[t,t] ty #[.slice A n c,.slice B m d]).run P w=.ok (.slice A' (n+m) c') w'/\OwP w' base et p e X K A' (n+m) c'/\Below w w w':=by
 obtain ⟨i,z,hi,hz,A0,A5,A7⟩:=E.hi;have hO:=hown;obtain ⟨xs,h1,h2⟩:=hown;obtain ⟨news,n1,n2,n3,n4,n5⟩:=hsrc.news;by_cases hm:m=0
 ·subst hm;exact ⟨A,c,w,ct_ (P:=P) w t ty et i E.ht hi A n c (dk_ h1).1 B d,hO,b_⟩
 obtain ⟨ad,rfl⟩:∃ ad,B=some ad:=by
  cases B with
  | none=>exact absurd (n2 rfl) hm
  | some ad=>exact ⟨ad,rfl⟩
 obtain ⟨A',c',w',hr,g1,g2,g3⟩:=cz_ (P:=P) w base t ty et i z e.length bytes E.ht hi hz A0 A5 A7 E.hsz _ n xs h1 (some ad) m d news n2 n1 n3 n4 h63 hbytes hbase;have A1:Below w w w'/\∀ g,(Value.slice A' (n+m) c').ownBlock=some g->g=w:=by
  rcases h1.2 with ⟨hA,hn⟩ | ⟨g,cap,cur,hv,hbg,hg,hnc,hcm,hcs,htake⟩
  ·injection hA with q1 q2 q3;subst q1 q2 q3;exact ⟨aj_ g2 (l_) (fun k hk=>by cases hk),fun g hg=>by rcases g3 g hg with h | h;cases h;exact h⟩
  injection hv with q1 _ q3;subst q1 q3;have A3:∀ j u,xs[j]?=some u->w.cell? (((a_ g):Addr).add j)=some u:=h1.cells (g:=g) rfl;have A6:=run_append_grow (P:=P) w t ty et i z E.ht hi hz (a_ g) n c xs (by rw [A0];exact h1.1) A3 ad m d news (by rw [A0];exact n1) (n3 ad rfl) o_ (by unfold maxLen at h63;omega) (by rw [A5];exact growslice_fits o_ hbytes);rw [A6] at hr;injection hr with e1 e2;injection e1 with e1 e3 e4;refine ⟨by rw [<-e2];exact (Below.drew (b_)).alloc (l_) _,fun g' A4=>?_⟩;rw [<-e1] at A4;injection A4 with A4;exact A4.symm
 refine ⟨A',c',w',hr,⟨xs ++ news,g1,fun k hk=>?_⟩,A1.1⟩;have A2:xs.length=n*e.length:=h1.1;by_cases hkn:k<n
 ·obtain ⟨vs,v1,v2,v3⟩:=h2 k hkn;refine ⟨vs,v1.kept (.of_below A1.1) (fun q hq h3 h4=>?_) (l_),fun j u hu=>by rw [List.getElem?_append_left (e_ (v2 j u hu)).1];exact v2 j u hu,v3⟩;rcases h4 with h4 | h4
  ·exact h3 (.inl h4)
  have:=A1.2 q h4;omega
 obtain ⟨vs,v1,v2,v3⟩:=n5 (k - n) o_;refine ⟨vs,v1.kept (.of_below A1.1) (fun q hq h3 h4=>?_) (l_),fun j u hu=>?_,v3⟩
 ·rcases h4 with h4 | h4
  ·exact h3 h4
  have:=A1.2 q h4;omega
 have e1:k*e.length=n*e.length+(k - n)*e.length:=by rw [<-Nat.add_mul];congr 1;omega
 rw [List.getElem?_append_right (by rw [A2];omega),A2,show k*e.length+j - n*e.length=(k - n)*e.length+j from by omega];exact v2 j u hu
end
theorem OwP.le {w:World} {base D D' n c:Nat} {et:TypeId} {X:NP} {A:OA} (h:OwP w base et pS (ah_ D) X 20 A n c) (hD:D<=D'):OwP w base et pS (ah_ D') X 20 A n c:=by
 obtain ⟨xs,ho,hx⟩:=h;refine ⟨xs,by rw [by_] at ho ⊢;exact ho,fun k hk=>?_⟩;obtain ⟨vs,h1,h2,h3⟩:=hx k hk;exact ⟨vs,stmtT_le hD h1 h3,fun j u hu=>by have:=h2 j u hu;rw [by_] at this ⊢;exact this,h3⟩
theorem OwP.lit {w:World} {X:NP} {p:VL->Prop} {e:List CT} {K n:Nat} (et:TypeId) (vss:List (VL)) (hn:vss.length=n) (hn0:0<n) (hm:n<=maxLen) (hv:∀ vs ∈ vss,VTs w X K e vs/\p vs) (hlt:∀ k,X k->k<w) :
  OwP (w.alloc (.cells vss.flatten.toArray et)) w et p e X K (some (a_ w)) n n:=by
 have A1:∀ (l:List (VL)),(∀ vs ∈ l,vs.length=e.length)->l.flatten.length=l.length*e.length:=by
  intro l
  induction l with
  | nil=>intro _;simp
  | cons a r ih =>
   intro h;rw [List.flatten_cons,List.length_append,h a (.head _),ih (fun vs A0=>h vs (.tail _ A0)),List.length_cons,Nat.add_mul,Nat.one_mul,Nat.add_comm]
 have A3:∀ (l:List (VL)),(∀ vs ∈ l,vs.length=e.length)->∀ (k j:Nat) (vs:VL) (u:Value),l[k]?=some vs->vs[j]?=some u->l.flatten[k*e.length+j]?=some u:=by
  intro l
  induction l with
  | nil=>intro _ k j vs u hk;simp at hk
  | cons a r ih =>
   intro h k j vs u hk hj;rw [List.flatten_cons];cases k with
   | zero =>
    simp at hk;subst hk;rw [Nat.zero_mul,Nat.zero_add,List.getElem?_append_left (e_ hj).1];exact hj
   | succ k =>
    rw [List.getElem?_append_right (by rw [h a (.head _),Nat.succ_mul];omega),h a (.head _),show (k+1)*e.length+j - e.length=k*e.length+j from by rw [Nat.succ_mul];omega];exact ih (fun vs A0=>h vs (.tail _ A0)) k j vs u (by simpa using hk) hj
 have hl:∀ vs ∈ vss,vs.length=e.length:=fun vs A0=>(hv vs A0).1.1
 refine ⟨vss.flatten,⟨by rw [A1 vss hl,hn],.inr ⟨w,n,vss.flatten.toArray,rfl,l_,heap_new w _,l_,hm,by rw [List.size_toArray,A1 vss hl,hn],?_⟩⟩,fun k hk=>?_⟩
 ·show vss.flatten.take _=_
  exact List.take_of_length_le (by rw [A1 vss hl,hn];exact l_)
 obtain ⟨vs,A0⟩:∃ vs,vss[k]?=some vs:=⟨_,ge_ o_⟩;have A2:=List.mem_of_getElem? A0;refine ⟨vs,?_,fun j u hu=>A3 vss hl k j vs u A0 hu,(hv vs A2).2⟩;refine (hv vs A2).1.kept (.of_below ((b_).alloc (l_) _)) (fun q hq h1 h2=>?_) (l_);rcases h2 with h2 | h2
 ·exact h1 h2
 injection h2 with h2;have:w=q:=h2;omega
end Go.Proofs.YtfolidlmgfhkiaaGreat
namespace Go.Proofs.YtfolidlmgfhkiaaGreat
open Go.RowKit Go.Proofs.Tryz
structure InvP (d b:Nat) (X:NP) (w0:World) (J:World->Prop) (w:World):Prop where
 ok:Mk d b 0 w
 kp:Kp (Zm d b) w0 w
 lt:∀ k,X k->k<w
 j:J w
section
variable {d b:Nat} {X:XE} {w0 w w':World} {J:World->Prop}
theorem InvP.ic (hz:∀ k,Zm d b k->X k) (hJ:∀ w w',Kp (Zm d b) w w'->J w->J w') (hE:∀ w,X.e w):IC d b 0 X (InvP d b X w0 J) :=
 ⟨fun _ h=>h.ok,hz,fun _ h=>h.lt,fun w w' h hm hk=>⟨hm,h.kp.trans hk,fun k A0=>lt_ (h.lt k A0) hk.size,hJ _ _ hk h.j⟩,fun _ w' _ _ _=>hE w'⟩
def kOt (X:XE) (B:Nat) (hB:∀ k,X k->k<B) (D q:Nat):SK X:=⟨fun w u=>∃ A n c,u=.slice A n c/\n<=q/\(n=0->A=none)/\OwP w B 212 pS (ah_ D) X 20 A n c,fun w w' u hk _ ⟨A,n,c,e,hq,h0,h⟩=>⟨A,n,c,e,hq,h0,h.kept hk hB⟩⟩
def kOl (X:XE) (B:Nat) (hB:∀ k,X k->k<B) (D k:Nat):SK X:=⟨fun w u=>∃ A,u=.slice A k k/\OwP w B 212 pS (ah_ D) X 20 A k k,fun w w' u hk _ ⟨A,e,h⟩=>⟨A,e,h.kept hk hB⟩⟩
def kFn (X:XE) (B:Nat) (hB:∀ k,X k->k<B) (S:ByteArray) (D q:Nat):SK X:=⟨fun w u=>∃ P np cp A n c,u=.agg #[.string S,.slice P np cp,.slice A n c]/\SlT w X 20 [.sat strP] P np cp/\n<=q/\(n=0->A=none)/\OwP w B 212 pS (ah_ D) X 20 A n c,fun w w' u hk _ ⟨P,np,cp,A,n,c,e,h1,hq,h0,h⟩=>⟨P,np,cp,A,n,c,e,h1.up hk (l_),hq,h0,h.kept hk hB⟩⟩
def zfn:VL:=[.string ⟨#[]⟩,.slice none 0 0,.slice none 0 0]
def kVarF (X:XE) (B:Nat):SK X:=⟨fun w u=>∃ g,u=.pointer (some (a_ g))/\B<=g/\¬X g/\Bx w g zfn,fun w w' u hk _ ⟨g,e,hB,hX,hb⟩=>⟨g,e,hB,hX,hb.kp hk hX⟩⟩
end
section
variable {Q:Exit->Act->World->Prop} {X:XE} {Inv:World->Prop} {o:Oper} {a:Act} {w:World} {d b lp:Nat} {x y z:Operand}
theorem rk_listo {deep D n B:Nat} {hB:∀ k,X k->k<B} (hBw:B<=w) (hC:IC d b lp X Inv) (hL:LsOK deep D) (hlp:lp<=100+deep) (hn:n<=6) (ho:o.op=.call { callee:=.value (.func 113),args:=#[x,y,z],argTypes:=#[203,3,3] }) (hx:a.eval x=.pointer (some (a_ b))) (hy:a.eval y=i_ deep) (hz:a.eval z=i_ n) (hI:Inv w):RnK prog Q X Inv (kOt X B hB D (n+1)) o a w:=by
 have hf:a.eval (.func 113)=.func (.func 113) #[] #[]:=rfl;generalize hr:a.eval=r at hx hy hz hf;refine cm_ (f:=113) (args:=#[.pointer (some (a_ b)),i_ deep,i_ n]) xi_ ((hL d b lp X n w hn hlp (hC.ok w hI) hC.zx (hC.lt w hI)).mono ?_);rintro e w' ⟨⟨A,m,c,rfl,hm,h0,h⟩,hb⟩;exact ⟨_,rfl,hb.kp.mono (fun q _ hq=>hC.zx q hq),hC.ex w w' hI hb.kp,hC.up w w' hI hb.ok hb.kp,A,m,c,rfl,hm,h0,h.o.mono hBw⟩
theorem rk_ol1 {D B:Nat} {hB:∀ k,X k->k<B} (hBw:B<=w) (hC:IC d b lp X Inv) (ho:o.op=.buildSlice 192 1 #[(0,x)]) (hx:(kSt X D).p w (a.eval x)) (hI:Inv w):RnK prog Q X Inv (kOl X B hB D 1) o a w:=by
 obtain ⟨kd,s,f,n,op,A,m,c,B1,m1,c1,C,m2,c2,hx,h1⟩:=hx;generalize hr:a.eval=r at hx;refine rk_to (v:=.slice (some (a_ w)) 1 1) (w':=w.alloc (.cells (stL kd s f n op A m c B1 m1 c1 C m2 c2).toArray 212)) xr_ (.of_below (av_ w _ _)) (hC.ex w _ hI (.of_below (av_ w _ _))) ?_ (hC.below hI (av_ w _ _));have:=OwP.lit (n:=1) (w:=w) (X:=X) (p:=pS) (e:=ah_ D) (K:=20) 212 [stL kd s f n op A m c B1 m1 c1 C m2 c2] rfl d_ d_ (fun vs hv=>by rw [List.mem_singleton] at hv;subst hv;exact h1) (hC.lt w hI);exact ⟨_,rfl,OwP.mono (by simpa using this) hBw⟩
theorem rk_appf {D B k m d':Nat} {hB:∀ k,X k->k<B} {C:OA} (hBw:B<=w) (hC:IC d b lp X Inv) (hk:0<k) (hm:k+m<=19) (ho:o.op=.call { callee:=.builtin .append,args:=#[x,y],argTypes:=#[192,192] }) (hx:(kOl X B hB D k).p w (a.eval x)) (hy:a.eval y=.slice C m d') (hs:SlP w X 20 pS (ah_ D) C m d') (hI:Inv w):RnK prog Q X Inv (kOt X B hB D (k+m)) o a w:=fun K hK=>by
 obtain ⟨A,hx,hO⟩:=hx;obtain ⟨A',c',w',hr,o6,hb⟩:=app_full o.type ei_stmt hO hs o_ (hC.lt w hI) m_ o_ hBw;unfold Oper.wp execOp;simp only [ho,resolve,invoke,builtin,Sem.run_bind,Sem.run_pure,Result.andThen_ok,List.map_toArray,List.map_cons,List.map_nil,hx,hy,hr];exact hK _ _ (.of_below hb) (hC.ex w w' hI (.of_below hb)) (hC.below hI hb) ⟨A',k+m,c',rfl,l_,fun h=>o_,o6⟩
theorem kOt_le {B D q q':Nat} {hB:∀ k,X k->k<B} {v:Value} (hq:q<=q') (h:(kOt X B hB D q).p w v):(kOt X B hB D q').p w v:=by
 obtain ⟨A,n,c,e,hn,h0,h⟩:=h;exact ⟨A,n,c,e,o_,h0,h⟩
theorem kOt_d {B D D' q:Nat} {hB:∀ k,X k->k<B} {v:Value} (hD:D<=D') (h:(kOt X B hB D q).p w v):(kOt X B hB D' q).p w v:=by
 obtain ⟨A,n,c,e,hn,h0,h⟩:=h;exact ⟨A,n,c,e,hn,h0,h.le hD⟩
theorem rk_first {D B q:Nat} {hB:∀ k,X k->k<B} (hBw:B<=w) (hC:IC d b lp X Inv) (hq:q<=9) (ho:o.op=.call { callee:=.value (.func 115),args:=#[x,y],argTypes:=#[192,188] }) (hx:(kOt X B hB D q).p w (a.eval x)) (hy:(bs_ X 3).p w (a.eval y)) (hI:Inv w):RnK prog Q X Inv (kOt X B hB D (q+8)) o a w:=by
 obtain ⟨A,n,c,hx,hn,h0,hO⟩:=hx;obtain ⟨g,hy,hg,A1,hc⟩:=hy;have hf:a.eval (.func 115)=.func (.func 115) #[] #[]:=rfl;generalize hr:a.eval=r at hx hy hf;refine cm_ (f:=115) (args:=#[.slice A n c,.slice (some (a_ g)) 3 3]) z9_ ((first_m X D A n c g w (hC.lt w hI) (hO.slP hB o_) o_ hg A1 hc).mono ?_);rintro e w' ⟨⟨A',m,c',rfl,hm,A0,h⟩,hb⟩;exact ⟨_,rfl,.of_below hb,hC.ex w w' hI (.of_below hb),hC.below hI hb,A',m,c',rfl,o_,A0,h.o.mono hBw⟩
theorem rk_fn2 {D B q:Nat} {S:ByteArray} {hB:∀ k,X k->k<B} (ho:o.op=.build 194 #[(0,.const (.string S)),(2,x)]) (hx:(kOt X B hB D q).p w (a.eval x)) (hI:Inv w):RnK prog Q X Inv (kFn X B hB S D q) o a w:=by
 obtain ⟨A,n,c,hx,hn,h0,hO⟩:=hx;have e0:a.eval (.const (.string S))=.string S:=rfl;generalize hr:a.eval=r at hx e0;exact bq_ (v:=.agg #[.string S,.slice none 0 0,.slice A n c]) yt_ ⟨none,0,0,A,n,c,rfl,⟨Nat.zero_le _,l_,o_,fun _=>⟨rfl,rfl⟩,fun _ h=>by cases h⟩,hn,h0,hO⟩ hI
theorem rk_fn3 {D B q k:Nat} {S:ByteArray} {hB:∀ k,X k->k<B} (hk:k<=20) (ho:o.op=.build 194 #[(0,.const (.string S)),(1,y),(2,x)]) (hy:(bs_ X k).p w (a.eval y)) (hx:(kOt X B hB D q).p w (a.eval x)) (hI:Inv w):RnK prog Q X Inv (kFn X B hB S D q) o a w:=by
 obtain ⟨A,n,c,hx,hn,h0,hO⟩:=hx;obtain ⟨g,hy,hg,A0,hc⟩:=hy;have e0:a.eval (.const (.string S))=.string S:=rfl;generalize hr:a.eval=r at hx hy e0;exact bq_ (v:=.agg #[.string S,.slice (some (a_ g)) k k,.slice A n c]) xp_ ⟨_,k,k,A,n,c,rfl,slt_strs hg A0 hk hc,hn,h0,hO⟩ hI
theorem rk_varf {B:Nat} (hC:IC d b lp X Inv) (hB:B<=w) (ho:o.op=.alloc 194) (hI:Inv w):RnK prog Q X Inv (kVarF X B) o a w:=by
 refine rk_to (v:=.pointer (some (a_ w))) (w':=w.alloc (.cells zfn.toArray 194)) (by simp [execOp,ho,go_sem,zfn]) (.of_below (av_ w _ _)) (hC.ex w _ hI (.of_below (av_ w _ _))) ?_ (hC.below hI (av_ w _ _));exact ⟨_,rfl,hB,fun h=>by have:=hC.lt w hI _ h;omega,Bx.new w _ _⟩
theorem rk_fldf {x:Operand} {g f:Nat} (hf:f<3) (ho:o.op=.fieldAddr 194 x f) (hx:a.eval x=.pointer (some (a_ g))) (hI:Inv w):RnK prog Q X Inv (kV X (.pointer (some (f_ g f)))) o a w:=by
 generalize hr:a.eval=r at hx;refine bq_ (v:=.pointer (some (f_ g f))) ?_ rfl hI;rw [hr]
 match f,hf with
 | 0,_=>simp [execOp,ho,hx,go_sem]
 | 1,_=>simp [execOp,ho,hx,go_sem]
 | 2,_=>simp [execOp,ho,hx,go_sem]
theorem rk_lst8 {x:Operand} {g D:Nat} {cs:VL} (ho:o.op=.load 212 x) (hx:a.eval x=.pointer (some (a_ g))) (hb:Bx w g cs) (hv:VTs w X 20 (ah_ (D+1)) cs) (hp:pS cs) (hI:Inv w):RnK prog Q X Inv (kSt X (D+1)) o a w:=fun K hK=>by
 obtain ⟨kd,s,f,n,op,A,B,C,m,c,m1,c1,m2,c2,rfl,_⟩:=hv.stmt;refine wp_load_mid 212 x ho g 0 hx _ _ hb.whole underlying212 rfl isz8 (hK _ _ (Kp.refl _ _) (fun h=>h) hI ⟨kd,s,f,n,op,A,m,c,B,m1,c1,C,m2,c2,rfl,hv,hp⟩)
end
theorem settle_t (X:NP) (K:Nat) (A:OA) (n c:Nat) (L:Nat) (vs:VL) (id f:Int) (w:World) (h:SlT w X K objT A n c) (hK:K<=1000000000) (ht:VTs w X L ae_ vs) (hL:L<=100000000) (hX:∀ k,X k->k<w) :
  Calls prog 141 #[.agg vs.toArray,.agg #[.slice A n c],i_ id,i_ f] w fun e w'=>RATk X (L+2) ae_ .tru vs e w'/\Below w w w':=by
 obtain ⟨W,Y,C,hW,hz,U,F,c0,c1,c2⟩:=Fr.start3 hX (L+1) ae_ vs 65 (ht.up (Kp.refl _ _) (Nat.le_succ L)) K [.sl objT] [.slice A n c] 35 (vts1 h) (L+2) ae_ zl1 65 (ax_ _ ae_);have HF:=q_ F;have HH:=q_ (h.go U (l_));have HT:=h_ (VTs W Y L ae_ (C w)) wt_;have BT:=q_ (F.box (i:=2) rfl);have IT:=q_ (F.info (i:=2) rfl au_);have x1:=F.cell (i:=1) rfl (j:=0) (by rw [c1];rfl);have C1:=q_ c1;have Ac:=q_ c0;clear F h ht hX U c0 c1 c2;go_enter func141,ntmps141;go_upto_region 1 with fail;rw [<-hW];clear hW;go_wp2_with (with_reducible refine ac_ rfl 65 (.tmp 4) rfl _ underlying65 rfl v_ BT.o.whole IT.o ?_);refine (delta_t Y L (C w) id f W HT.o o_).mono ?_;rintro e V ⟨⟨m,hm,⟨A1,c4,Ap⟩,⟨q,rfl,hq⟩⟩,hV⟩;have FV:=q_ (HF.o.call hV);have TV:=q_ (HT.o.go (Up.of_below hV) (l_));have HV:=q_ (HH.o.go (Up.of_below hV) (l_));have x2:=FV.o.cell (i:=1) rfl (j:=0) (by rw [C1.o];rfl);clear hV x1;by_cases hneg:q<0
 ·clear hq;go_upto_region 3 with fail;have BT:=q_ (FV.o.box (i:=2) rfl);have BR:=q_ (FV.o.box (i:=0) rfl);have LR:=q_ (FV.o.len (i:=0) rfl);go_wp2_with (first | (with_reducible refine ac_ rfl 65 (.tmp 4) rfl _ underlying65 rfl v_ BT.o.whole IT.o ?_) | (with_reducible refine ab_ rfl 65 (.tmp 8) (.tmp 21) rfl (C w) w_ v_ (BR.o.ai_ LR.o (Nat.le_of_eq TV.o.len)) IT.o TV.o.one ?_));obtain ⟨F',_⟩:=FV.o.sets (i:=0) rfl (TV.o.up (Kp.refl _ _) (Nat.le_add_right L 2));refine cc_ results141 za_ underlying65 rfl (F'.info (i:=0) rfl au_) (F'.box (i:=0) rfl).whole rfl ?_;exact F'.ratk (i:=0) rfl (.tru _) (by rw [upd_same,Ac.o];exact KT.refl _)
 obtain ⟨k,hk,rfl⟩:∃ k:Nat,k<m/\q=(k:Int):=by
  rcases hq.o with h | h
  ·omega
  exact h
 clear hq;have BT:=q_ (FV.o.box (i:=2) rfl);go_upto_region 4 with fail;go_wp2_with (with_reducible refine ac_ rfl 65 (.tmp 4) rfl _ underlying65 rfl v_ BT.o.whole IT.o ?_);refine (before_t Y K A n c L (C w) V HV.o o_ TV.o o_ FV.o.lt).mono ?_;rintro e S ⟨⟨A2,n2,c2,rfl,Al⟩,hS⟩;have FS:=q_ (FV.o.call hS);have US:=q_ (Up.of_below hS (Y:=Y));clear hS x2;go_wp2_with fail;refine (Read_t Y K A2 n2 c2 id f S Al.o o_).mono ?_;rintro e R ⟨⟨v,b,rfl⟩,hR⟩;have FR:=q_ (FS.o.call hR);have UR:=q_ (US.o.trans (Up.of_below hR (Y:=Y)));clear hR Al;obtain ⟨P,Y2,C2,hP,AH,Ao,FP,cP,cO⟩:=FR.o.add1 0 valT [.bool v.ref,i_ v.n] 38 (vtsval _ _);have zR:=FR.o.blt (i:=2) rfl;have AW:=FR.o.blt (i:=0) rfl;have UP:=q_ (UR.o.trans Ao);have A7:=q_ FP;have e2:C2 w=C w:=cO _ o_;have TP:=h_ (VTs P Y2 L ae_ (C2 w)) (by rw [e2];exact TV.o.go UP.o (l_));have IP:=q_ (FP.info (i:=3) rfl au_);have Ai:=q_ cP;have As:=h_ (C2 (w+1)=[.slice A n c]) (by rw [cO _ (by have:=FR.o.blt (i:=1) rfl;omega)];exact C1.o);have p0:=FP.cell (i:=0) rfl (j:=0) (by rw [cP];rfl);have p1:=FP.cell (i:=0) rfl (j:=1) (by rw [cP];rfl);have Ax:=q_ Ap;have E2:=q_ e2;clear Ao FP cP cO AH Ap e2;go_upto_region 5 with fail;rw [<-hP];clear hP;have BP:=q_ (A7.o.box (i:=3) rfl);have BR:=q_ (A7.o.box (i:=1) rfl);have LR:=q_ (A7.o.len (i:=1) rfl);have x3:=A7.o.cell (i:=2) rfl (j:=0) (by rw [As.o];rfl);obtain ⟨vr,vn⟩:=v;cases b
 ·go_wp2_with (first | (with_reducible refine ac_ rfl 65 (.tmp 4) rfl _ underlying65 rfl v_ BP.o.whole IP.o ?_) | (with_reducible refine ab_ rfl 65 (.tmp 8) (.tmp 37) rfl (C2 w) w_ v_ (BR.o.ai_ LR.o (Nat.le_of_eq TP.o.len)) IP.o TP.o.one ?_));exact vw_
 cases vr
 ·go_wp2_with (with_reducible refine ac_ rfl 65 (.tmp 4) rfl _ underlying65 rfl v_ BP.o.whole IP.o ?_);refine (Visible_t Y2 K A n c L (C2 w) P (HV.o.go UP.o (l_)) o_ TP.o o_ A7.o.lt).mono ?_;rintro e S ⟨⟨A3,n3,c3,rfl,Am⟩,hS⟩;have Au:=q_ (A7.o.call hS);clear x3 p0 p1;go_wp2_with fail;refine (Read_t Y2 (K+2*L) A3 n3 c3 id f S Am.o o_).mono ?_;rintro e Q ⟨⟨v2,b2,rfl⟩,hQ⟩;have Aj:=q_ (hS.trans (hQ.mono hS.size));have FQ:=q_ (Au.o.call hQ);clear hQ Am hS;obtain ⟨O,Y3,C3,hO,AG,Ag,FO,cP,cO⟩:=FQ.o.add1 0 valT [.bool v2.ref,i_ v2.n] 38 (vtsval _ _);have zQ:=FQ.o.blt (i:=3) rfl;have AV:=FQ.o.blt (i:=0) rfl;have A8:=q_ FO;have q0:=A8.o.cell (i:=1) rfl (j:=0) (by rw [cO _ o_,Ai.o];rfl);have q1:=A8.o.cell (i:=1) rfl (j:=1) (by rw [cO _ o_,Ai.o];rfl);have u3:=q_ ((UP.o.trans (show Up P Y2 Q Y2 from .of_below (Aj.o))).trans Ag);have e3:C3 w=C2 w:=cO _ o_;have TO:=h_ (VTs O Y3 L ae_ (C3 w)) (by rw [e3];exact (TP.o.go (.of_below Aj.o) (l_)).go Ag (l_));have O2:=h_ (C3 (Q:Nat)=_) cP;obtain ⟨RA,rn,rc,Af,HR⟩:=TO.o.slc (j:=37) (e:=ap_) rfl;obtain ⟨DA,dn,dc,A0,HD⟩:=TO.o.slc (j:=40) (e:=bj_) rfl;have AJ:dn=m:=by
   rw [e3,E2.o,Ax.o] at A0;injection A0 with A0;injection A0 with _ A0 _;exact A0.symm
  subst AJ;have AL:=A8.o.cell (i:=4) rfl Af;have AE:=A8.o.fz (i:=4) rfl;have H4:=q_ A0;have Av:=q_ Af;have AA:=q_ HR;have Ae:=q_ HD;have E3:=q_ e3;clear Ag FO cP cO AG Af A0 HR HD e3;go_upto_region 8 with fail;rw [<-hO];clear hO;go_wp2_with fail;refine (put_t Y3 L RA rn rc ⟨id,f,false,vn⟩ O AA.o o_ A8.o.lt).mono ?_;rintro e T ⟨⟨A5,n5,c5,rfl,An⟩,hT⟩;have Ab:=H4.o;have FT:=A8.o.call hT;obtain ⟨A4,Ar⟩:=FT.set (i:=4) (j:=37) (t:=.sl ap_) rfl rfl rfl An.o.vt;have AM:=FT.fz (i:=4) rfl;have AN:=FT.cell (i:=4) rfl Av.o;have uM:=(Up.of_below hT (Y:=Y3)).trans Ar;clear hT AL AE Ab;go_upto_region 9 with fail;clear AM AN;obtain ⟨M,hM⟩:=ex_ (T.setCell (f_ w 37) (.slice A5 n5 c5));obtain ⟨C4,A9⟩:=ex_ (upd C3 w ((C3 w).set 37 (.slice A5 n5 c5)));rw [<-hM,<-A9] at A4;rw [<-hM] at uM ⊢;have A0:(C4 w)[40]?=some (.slice DA dn dc):=by rw [A9,upd_same,gs_,if_neg d_];exact H4.o
  have Ad:C4 Q=C3 Q:=by rw [A9];exact ad_ _ _ o_
  have Ay:=q_ (Ae.o.go uM (Nat.le_refl L));have HM:=q_ A4;have AO:=A4.cell (i:=4) rfl A0;have AF:=A4.fz (i:=4) rfl;have TM:=h_ (VTs M Y3 (L+1) ae_ (C4 w)) (A4.whole (i:=4) rfl);have q0:=A4.cell (i:=0) rfl (j:=0) (by rw [Ad,O2.o];rfl);have q1:=A4.cell (i:=0) rfl (j:=1) (by rw [Ad,O2.o];rfl);have Aw:=q_ A0;have AR:=Ae.o.cap;have AQ:=Ae.o.le;have AU:IntKind.i64.wrap ((k:Int)+1)=(k:Int)+1:=by rw [IntKind.wrap_i64];omega
  have AS:∀ w',(Instr.slice 63 (.slice DA dn dc) none (some (i_ (k:Int))) (some (i_ (k:Int)))).run prog w'=.ok (.slice DA k k) w':=bw_.high3 o_;have AT:∀ w',(Instr.slice 63 (.slice DA dn dc) (some (i_ ((k:Int)+1))) none none).run prog w'=.ok (.slice (cutA DA dc (k+1) 5) (dn - (k+1)) (dc - (k+1))) w':=fun w'=>bw_.low (k:=k+1) o_ w'
  have HL:=q_ HM.o.lt;have HQ:=h_ ((C4 Q)[0]?=some (.bool v2.ref)/\(C4 Q)[1]?=some (i_ v2.n)) (by rw [Ad,O2.o];exact ⟨rfl,rfl⟩);have AC:=h_ (KT vs (C4 w)) (by rw [A9,upd_same,E3.o,E2.o,Ac.o];exact KT.set _ _ _ ⟨d_,d_⟩);clear hM A9 uM A4 Ar FT An Ad A0;have Ak:=h_ (∀ w',Below M M w'->SlT w' Y3 L bj_ DA dn dc) (fun w' hb=>Ay.o.go (.of_below hb) (l_));go_region_law (refine ce_ rfl (.tmp 59) (.tmp 64) rfl bw_ Y3 L DA k k v_ ((Ak.o _ (Below.drew (b_))).take o_ k (l_) o_) (cutA DA dc (k+1) 5) (dn - (k+1)) (dc - (k+1)) zt_ ((Ak.o _ (Below.drew (b_))).drop o_) o_ (fun q hq=>HL.o q hq) o_ m_ o_ ?_;intro A6 c6 w6 Aq AI;have F6:=HM.o.drew.call AI;have Az:=q_ F6;have AB:=q_ Aq;have f6:=F6.fz (i:=4) rfl;have AP:=F6.cell (i:=4) rfl Aw.out;clear F6 Aq AO AF q0 q1);all_goals
   obtain ⟨F7,u7⟩:=Az.o.set (i:=4) (j:=40) (t:=.sl bj_) rfl rfl rfl (AB.o.up (Kp.refl _ _) (Nat.le_succ L)).vt;obtain ⟨N,hN⟩:=ex_ (w6.setCell (f_ w 40) (.slice A6 (k+(dn - (k+1))) c6));obtain ⟨C5,Aa⟩:=ex_ (upd C4 w ((C4 w).set 40 (.slice A6 (k+(dn - (k+1))) c6)));rw [<-hN,<-Aa] at F7;rw [<-hN];have q0:=F7.cell (i:=0) rfl (j:=0) (by rw [Aa,ad_ _ _ o_];exact HQ.o.1);have q1:=F7.cell (i:=0) rfl (j:=1) (by rw [Aa,ad_ _ _ o_];exact HQ.o.2);have TN:=h_ (VTs N Y3 (L+1) ae_ (C5 w)) (F7.whole (i:=4) rfl);have BN:=q_ (F7.box (i:=4) rfl);have IN:=q_ (F7.info (i:=4) rfl au_);have HN:=q_ F7;have AD:=h_ (KT vs (C5 w)) (by rw [Aa,upd_same];exact AC.o.trans (KT.set _ _ _ ⟨d_,d_⟩));clear hN Aa F7 u7 AP f6;go_wp2_with (with_reducible refine ac_ rfl 65 (.tmp 4) rfl _ underlying65 rfl v_ BN.o.whole IN.o ?_);refine (write_t Y3 (L+1) (C5 w) ⟨id,f,v2.ref,v2.n⟩ N TN.o o_ HN.o.lt).mono ?_;rintro e Z ⟨⟨zs,rfl,Ah,AK⟩,hZ⟩;have FZ:=q_ (HN.o.call hZ);have BR:=q_ (FZ.o.box (i:=2) rfl);have LR:=q_ (FZ.o.len (i:=2) rfl);have TZ:=q_ Ah;have IZ:=h_ ((prog.info? 65).map (·.size)=some zs.length) (by rw [Ah.1];exact au_);clear hZ Ah q0 q1;go_wp2_with (with_reducible refine ab_ rfl 65 (.tmp 8) (.tmp 72) rfl (zs) w_ v_ (BR.o.ai_ LR.o (Nat.le_of_eq TZ.o.len)) IZ.o TZ.o.one ?_);obtain ⟨F',_⟩:=FZ.o.sets (i:=2) rfl TZ.o;refine cc_ results141 za_ underlying65 rfl (F'.info (i:=2) rfl au_) (F'.box (i:=2) rfl).whole rfl ?_;exact F'.ratk (i:=2) rfl (.tru _) (by rw [upd_same];exact AD.o.trans AK.o)
 go_wp2_with (first | (with_reducible refine ac_ rfl 65 (.tmp 4) rfl _ underlying65 rfl v_ BP.o.whole IP.o ?_) | (with_reducible refine ab_ rfl 65 (.tmp 8) (.tmp 37) rfl (C2 w) w_ v_ (BR.o.ai_ LR.o (Nat.le_of_eq TP.o.len)) IP.o TP.o.one ?_));exact vw_
end Go.Proofs.YtfolidlmgfhkiaaGreat
namespace Go.Proofs.YtfolidlmgfhkiaaGreat
open Go.RowKit
inductive NS:CT->Prop
 | num:NS .num
 | tru:NS .tru
 | txt:NS .txt
 | sat:NS (.sat strP)
 | sl (e:List CT) (h:∀ (j:Nat) (t:CT),e[j]?=some t->NS t) (h2:∀ (j:Nat) (t:CT),e[j]?=some t->j<=2->∀ e',t≠.sl e'/\∀ p,t≠.lst p e'):NS (.sl e)
 | lst (p:VL->Prop) (e:List CT) (h:∀ (j:Nat) (t:CT),e[j]?=some t->NS t) (h2:∀ (j:Nat) (t:CT),e[j]?=some t->j<=2->∀ e',t≠.sl e'/\∀ p,t≠.lst p e') (h0:∀ t,e[0]?=some t->t=.num):NS (.lst p e)
structure FnC3 (g:Nat) (w w':World):Prop where
 sz:(w:Nat)<=w'
 cs:∀ b o,w'.cell? (f_ b o)=w.cell? (f_ b o)\/(b=g/\((o=0/\(∃ s,w.cell? (f_ b o)=some (.string s))/\∃ s:ByteArray,w'.cell? (f_ b o)=some (.string s)/\s.size<=100)\/((o=1\/o=2)/\∃ A n c,w.cell? (f_ b o)=some (.slice A n c))))
theorem VT.nosl {w:World} {X:NP} {K:Nat} {t:CT} {A:OA} {n c:Nat} (h:VT w X K t (.slice A n c)) (hs:∀ e',t≠.sl e'/\∀ p,t≠.lst p e') (hn:NS t):False:=by
 cases hn with
 | num=>cases h
 | tru=>cases h
 | txt=>cases h
 | sat=>cases h with
  | sat p v h hp=>obtain ⟨s,e,_⟩:=hp;cases e
 | sl e _ _=>exact (hs e).1 rfl
 | lst p e _ _ _=>exact (hs e).2 p rfl
theorem VT.setf {g:Nat} {w w':World} {X:NP} {K:Nat} {t:CT} {v:Value} (h:VT w X K t v) (hc:FnC3 g w w'):NS t->VT w' X K t v:=by
 induction h with
 | num n=>intro _;exact .num n
 | tru x=>intro _;exact .tru x
 | txt x=>intro _;exact .txt x
 | nil e=>intro _;exact .nil e
 | sat p v h hp=>intro _;exact .sat p v h hp
 | lnil p e=>intro _;exact .lnil p e
 | sl e b o n c f hg hX hn hcap hm hf ht ih =>
  intro A0;cases A0 with
  | sl _ h1 h2 =>
   have A1:∀ k j t,k<n->e[j]?=some t->∃ v,w'.cell? ⟨b,o+(k*e.length+j),none⟩=some v/\VT w' X K t v:=fun k j t hk hj=>by
    rcases hc.cs b (o+(k*e.length+j)) with h | ⟨hb,h⟩
    ·exact ⟨f k j,h.trans (hf k j t hk hj),ih k j t hk hj (h1 j t hj)⟩
    rcases h with ⟨h0,⟨s,hs⟩,s',hs',hz⟩ | ⟨h12,A,m,d,hs⟩
    ·rw [hf k j t hk hj] at hs;injection hs with hs;have h3:=ht k j t hk hj;rw [hs] at h3;have A3:j=0:=by omega
     have A5:=h1 j t hj;refine ⟨.string s',hs',?_⟩;cases A5 with
     | num=>cases h3
     | tru=>cases h3
     | txt=>exact .txt _
     | sat=>exact .sat _ _ rfl ⟨s',rfl,hz⟩
     | sl e' _ _=>cases h3
     | lst p e' _ _ _=>cases h3
    rw [hf k j t hk hj] at hs;injection hs with hs;have h3:=ht k j t hk hj;rw [hs] at h3;exact (h3.nosl (h2 j t hj o_) (h1 j t hj)).elim
   have A4:∃ f':Nat->Nat->Value,∀ k j t,k<n->e[j]?=some t->w'.cell? ⟨b,o+(k*e.length+j),none⟩=some (f' k j)/\VT w' X K t (f' k j) :=
    ⟨fun k j=>(w'.cell? ⟨b,o+(k*e.length+j),none⟩).getD undef,fun k j t hk hj=>by obtain ⟨v,h1,h2⟩:=A1 k j t hk hj;dsimp only;rw [h1];exact ⟨rfl,h2⟩⟩
   obtain ⟨f',A2⟩:=A4;exact .sl e b o n c f' (lt_ hg hc.sz) hX hn hcap hm (fun k j t hk hj=>(A2 k j t hk hj).1) (fun k j t hk hj=>(A2 k j t hk hj).2)
 | lst p e b o n c f hg hX hn hcap hm hf ht hp ih =>
  intro A0;cases A0 with
  | lst _ _ h1 h2 h0 =>
   have A1:∀ k j t,k<n->e[j]?=some t->w'.cell? ⟨b,o+(k*e.length+j),none⟩=some (f k j):=fun k j t hk hj=>by
    rcases hc.cs b (o+(k*e.length+j)) with h | ⟨hb,h⟩
    ·exact h.trans (hf k j t hk hj)
    rcases h with ⟨h3,⟨s,hs⟩,s',hs',hz⟩ | ⟨h12,A,m,d,hs⟩
    ·exfalso;rw [hf k j t hk hj] at hs;injection hs with hs;have h4:=ht k j t hk hj;rw [hs] at h4;have A3:j=0:=by omega
     subst A3;have:=h0 t hj;subst this;cases h4
    exfalso;rw [hf k j t hk hj] at hs;injection hs with hs;have h3:=ht k j t hk hj;rw [hs] at h3;exact h3.nosl (h2 j t hj o_) (h1 j t hj)
   exact .lst p e b o n c f (lt_ hg hc.sz) hX hn hcap hm A1 (fun k j t hk hj=>ih k j t hk hj (h1 j t hj)) hp
theorem ns_expr:∀ d,∀ (j:Nat) (t:CT),(ay_ d)[j]?=some t->NS t:=by
 intro d
 induction d with
 | zero =>
  intro j t hj
  match j,hj with
  | 0,hj=>injection hj with hj;subst hj;exact .num
  | 1,hj=>injection hj with hj;subst hj;exact .num
  | 2,hj=>injection hj with hj;subst hj;exact .txt
  | 3,hj=>injection hj with hj;subst hj;exact .num
  | 4,hj=>injection hj with hj;subst hj;exact .lst _ _ (fun j t h=>by simp at h) (fun j t h=>by simp at h) (fun t h=>by simp at h)
 | succ d ih =>
  intro j t hj
  match j,hj with
  | 0,hj=>injection hj with hj;subst hj;exact .num
  | 1,hj=>injection hj with hj;subst hj;exact .num
  | 2,hj=>injection hj with hj;subst hj;exact .txt
  | 3,hj=>injection hj with hj;subst hj;exact .num
  | 4,hj =>
   injection hj with hj;subst hj;refine .lst _ _ ih (fun j t hj h2 e'=>?_) (fun t h=>?_)
   ·have h3:j=0\/j=1\/j=2:=by omega
    cases d <;> rcases h3 with rfl | rfl | rfl <;> (injection hj with hj;subst hj;exact ⟨x_,fun p h=>by cases h⟩)
   cases d <;> (injection h with h;exact h.symm)
theorem ns_lexpr (d:Nat):NS (.lst pE (ay_ d)):=by
 refine .lst _ _ (ns_expr d) (fun j t hj h2 e'=>?_) (fun t h=>?_)
 ·have h3:j=0\/j=1\/j=2:=by omega
  cases d <;> rcases h3 with rfl | rfl | rfl <;> (injection hj with hj;subst hj;exact ⟨x_,fun p h=>by cases h⟩)
 cases d <;> (injection h with h;exact h.symm)
theorem ns_noP:NS (.lst noP []):=.lst _ _ (fun j t h=>by simp at h) (fun j t h=>by simp at h) (fun t h=>by simp at h)
theorem ns_lstmt' (d:Nat) (h:∀ (j:Nat) (t:CT),(ah_ d)[j]?=some t->NS t):NS (.lst pS (ah_ d)):=by
 refine .lst _ _ h (fun j t hj h2 e'=>?_) (fun t h=>?_)
 ·have h3:j=0\/j=1\/j=2:=by omega
  cases d <;> rcases h3 with rfl | rfl | rfl <;> (injection hj with hj;subst hj;exact ⟨x_,fun p h=>by cases h⟩)
 cases d <;> (injection h with h;exact h.symm)
theorem ns_stmt:∀ d,∀ (j:Nat) (t:CT),(ah_ d)[j]?=some t->NS t:=by
 intro d
 induction d with
 | zero =>
  intro j t hj
  match j,hj with
  | 0,hj=>injection hj with hj;subst hj;exact .num
  | 1,hj=>injection hj with hj;subst hj;exact .txt
  | 2,hj=>injection hj with hj;subst hj;exact .txt
  | 3,hj=>injection hj with hj;subst hj;exact .num
  | 4,hj=>injection hj with hj;subst hj;exact .num
  | 5,hj=>injection hj with hj;subst hj;exact ns_lexpr _
  | 6,hj=>injection hj with hj;subst hj;exact ns_noP
  | 7,hj=>injection hj with hj;subst hj;exact ns_noP
 | succ d ih =>
  intro j t hj
  match j,hj with
  | 0,hj=>injection hj with hj;subst hj;exact .num
  | 1,hj=>injection hj with hj;subst hj;exact .txt
  | 2,hj=>injection hj with hj;subst hj;exact .txt
  | 3,hj=>injection hj with hj;subst hj;exact .num
  | 4,hj=>injection hj with hj;subst hj;exact .num
  | 5,hj=>injection hj with hj;subst hj;exact ns_lexpr _
  | 6,hj=>injection hj with hj;subst hj;exact ns_lstmt' d ih
  | 7,hj=>injection hj with hj;subst hj;exact ns_lstmt' d ih
theorem ns_lstmt (d:Nat):NS (.lst pS (ah_ d)):=ns_lstmt' d (ns_stmt d)
theorem ns_strs:NS (.sl [.sat strP]):=.sl _ (fun j t h=>by
 match j,h with
 | 0,h=>injection h with h;subst h;exact .sat) (fun j t h h2 e'=>by
 match j,h with
 | 0,h=>injection h with h;subst h;exact ⟨x_,fun p h=>by cases h⟩)
theorem SlP.setf {g:Nat} {w w':World} {X:NP} {K D:Nat} {A:OA} {n c:Nat} (h:SlP w X K pS (ah_ D) A n c) (hc:FnC3 g w w'):SlP w' X K pS (ah_ D) A n c:=by
 obtain ⟨A',n',c',e',h'⟩:=(h.vt.setf hc (ns_lstmt D)).dh_;exact v0_
theorem SlT.setf {g:Nat} {w w':World} {X:NP} {K:Nat} {A:OA} {n c:Nat} (h:SlT w X K [.sat strP] A n c) (hc:FnC3 g w w'):SlT w' X K [.sat strP] A n c:=by
 obtain ⟨A',n',c',e',h'⟩:=(h.vt.setf hc ns_strs).slice;exact v0_
theorem OwP.setf {g base:Nat} {w w':World} {X:NP} {D:Nat} {A:OA} {n c:Nat} (h:OwP w base 212 pS (ah_ D) X 20 A n c) (hc:FnC3 g w w') (hb:∀ b,(Value.slice A n c).ownBlock=some b->w'.heap[b]?=w.heap[b]?):OwP w' base 212 pS (ah_ D) X 20 A n c:=by
 obtain ⟨xs,ho,hx⟩:=h;refine ⟨xs,⟨ho.1,?_⟩,fun k hk=>?_⟩
 ·rcases ho.2 with h | ⟨b,cap,cur,hv,hg,hr,hr2⟩
  ·exact .inl h
  injection hv with q1 _ q3;subst q1 q3;exact .inr ⟨b,_,cur,rfl,hg,(hb b rfl).trans hr,hr2⟩
 obtain ⟨vs,h1,h2,h3⟩:=hx k hk;refine ⟨vs,⟨h1.1,fun j t hj=>?_⟩,h2,h3⟩;obtain ⟨u,hu,hv⟩:=h1.2 j t hj;exact ⟨u,hu,hv.setf hc (ns_stmt D j t hj)⟩
theorem fn_set {g:Nat} {w:World} {s0 s1:ByteArray} {A0 A1 B0 B1:OA} {n0 c0 n1 c1 m0 d0 m1 d1:Nat} (hb:Bx w g [.string s0,.slice A0 n0 c0,.slice B0 m0 d0]) (hs:s1.size<=100):FnC3 g w (w.setCells g 0 [.string s1,.slice A1 n1 c1,.slice B1 m1 d1]):=by
 have h':=hb.all [.string s1,.slice A1 n1 c1,.slice B1 m1 d1] rfl;refine ⟨by rw [setCells_size];exact l_,fun b o=>?_⟩;by_cases hbg:b=g
 ·subst hbg
  match o with
  | 0=>exact .inr ⟨rfl,.inl ⟨rfl,⟨s0,hb.2.1 0 _ rfl⟩,s1,h'.2.1 0 _ rfl,hs⟩⟩
  | 1=>exact .inr ⟨rfl,.inr ⟨.inl rfl,A0,n0,c0,hb.2.1 1 _ rfl⟩⟩
  | 2=>exact .inr ⟨rfl,.inr ⟨.inr rfl,B0,m0,d0,hb.2.1 2 _ rfl⟩⟩
  | o+3 =>
   left;simp only [World.setCells]
   repeat rw [bh_ _ _ _ _ zm_]
 left;have hk:Kp (fun k=>k=g) w (w.setCells g 0 [.string s1,.slice A1 n1 c1,.slice B1 m1 d1]):=ag_ _ _ _ (Kp.refl _ _) (.inl rfl);by_cases hlt:b<w
 ·exact hk.cell hlt hbg
 exact World.cell?_of_block (w:=w) (by rw [Array.getElem?_eq_none (show _<=b by rw [setCells_size];omega),Array.getElem?_eq_none (show _<=b by omega)])
theorem zfn_bx {g:Nat} {w:World} (h:Bx w g zfn):Bx w g [.string ⟨#[]⟩,.slice none 0 0,.slice none 0 0]:=h
theorem fn_put {g:Nat} {w:World} {s0:ByteArray} {A0 B0:OA} {n0 c0 m0 d0:Nat} (v:Value) (hb:Bx w g [.string s0,.slice A0 n0 c0,.slice B0 m0 d0]):FnC3 g w (w.setCell (f_ g 2) v):=by
 refine ⟨zj_,fun b o=>?_⟩;by_cases e:b=g/\o=2
 ·obtain ⟨rfl,rfl⟩:=e;exact .inr ⟨rfl,.inr ⟨.inr rfl,B0,m0,d0,hb.2.1 2 _ rfl⟩⟩
 left;exact bh_ _ _ _ _ (by intro e2;injection e2 with e3 e4;exact e ⟨e3.symm,e4.symm⟩)
theorem own_nofn {g base:Nat} {w:World} {X:NP} {D:Nat} {A:OA} {n c:Nat} {s0:ByteArray} {r:VL} (h:OwP w base 212 pS (ah_ D) X 20 A n c) (hn:0<n) (hb:Bx w g (.string s0 :: r)):(Value.slice A n c).ownBlock≠some g:=fun e=>by
 obtain ⟨xs,ho,hx⟩:=h;obtain ⟨vs,h1,h2,h3⟩:=hx 0 hn;obtain ⟨u,hu,hv⟩:=h1.2 0 .num (by cases D <;> rfl);obtain ⟨i,rfl⟩:=hv.int;have h4:=h2 0 _ hu;rw [Nat.zero_mul,Nat.zero_add] at h4;rcases ho.2 with ⟨h',_⟩ | ⟨b,cap,cur,hv2,hg,hr,hr2⟩
 ·injection h' with q1;subst q1;cases e
 injection hv2 with q1 _ q3;subst q1 q3;injection e with e;have e:b=g:=e;subst e;have h5:=ho.cells (g:=b) rfl 0 _ h4;rw [Addr.add_lit] at h5;have h6:=hb.2.1 0 _ rfl;rw [h6] at h5;cases h5
end Go.Proofs.YtfolidlmgfhkiaaGreat
namespace Go.Proofs.YtfolidlmgfhkiaaGreat
open Go.RowKit Go.Proofs.Tryz
section
variable {b F N N1 o k k1 k2:Nat} {pv:Nat->Value} {qs qs1:List Nat} {G G1:NP} {w w1 w2:World}
theorem RG.seq (u:Up w G w1 G1) (hq:∀ q ∈ qs,q ∈ qs1) (h1:N<=N1) (h2:N1<=N+k1) (h:RG b F pv qs1 N1 o G1 w1 k2 w2):RG b F pv qs N o G w (k1+k2) w2:=by
 obtain ⟨G',A1,N',g1,g2,g3,g4,g5⟩:=h;exact ⟨G',A1,N',g1,fun q A0=>g2 q (hq q A0),o_,o_,q_ (u.trans g5.o)⟩
theorem RG.more {k':Nat} (h:RG b F pv qs N o G w k w2) (hk:k<=k'):RG b F pv qs N o G w k' w2:=by
 obtain ⟨G',A0,N',g1,g2,g3,g4,g5⟩:=h;exact ⟨G',A0,N',g1,g2,g3,o_,g5⟩
theorem RG.put {e:Ending} (h:RPut b F pv qs N o G w e w1):RG b F pv qs N o G w 1 w1:=by
 obtain ⟨_,G',h1,h2,_⟩:=h;exact ⟨G',qs,N+1,h1,fun _ h=>h,o_,o_,h2⟩
theorem RG.zero (h:GC b F pv qs N N o G w1) (u:Up w G w1 G):RG b F pv qs N o G w 0 w1:=⟨G,qs,N,q_ h,fun _ h=>h,l_,l_,q_ u⟩
end
def ce:Nat->Nat
 | 0=>1
 | d+1=>1+2*ce d
structure ExB (w:World) (b:Nat) (kd n:Int) (s:ByteArray) (op:Int) (A:OA) (m c:Nat):Prop where
 y0:w.cell? (a_ b)=some (i_ kd)
 y1:w.cell? (f_ b 1)=some (i_ n)
 y2:w.cell? (f_ b 2)=some (.string s)
 y3:w.cell? (f_ b 3)=some (i_ op)
 y4:w.cell? (f_ b 4)=some (.slice A m c)
structure ExE (w:World) (A:OA) (k:Nat) (kd n:Int) (s:ByteArray) (op:Int) (B:OA) (m c g o:Nat):Prop where
 hA:A=some (f_ g o)
 lt:g<w
 y0:w.cell? ⟨g,o+k*5,none⟩=some (i_ kd)
 y1:w.cell? ⟨g,o+k*5+1,none⟩=some (i_ n)
 y2:w.cell? ⟨g,o+k*5+2,none⟩=some (.string s)
 y3:w.cell? ⟨g,o+k*5+3,none⟩=some (i_ op)
 y4:w.cell? ⟨g,o+k*5+4,none⟩=some (.slice B m c)
theorem ExE.up {w w':World} {A:OA} {k:Nat} {kd n:Int} {s:ByteArray} {op:Int} {B:OA} {m c g o:Nat} {G G':NP} (h:ExE w A k kd n s op B m c g o) (u:Up w G w' G') (hg:¬G g):ExE w' A k kd n s op B m c g o:=by
 have hc:∀ j,w'.cell? (f_ g j)=w.cell? (f_ g j):=fun j=>u.kp.cell h.lt hg
 exact ⟨h.hA,lt_ h.lt u.kp.size,(hc _).trans h.y0,(hc _).trans h.y1,(hc _).trans h.y2,(hc _).trans h.y3,(hc _).trans h.y4⟩
theorem SlP.ex {d:Nat} {X:NP} {w:World} {K:Nat} {A:OA} {n c k:Nat} (h:SlP w X K pE (ay_ d) A n c) (hk:k<n):∃ (kd nn:Int) (s:ByteArray) (op:Int) (B:OA) (m c' g o:Nat),ExE w A k kd nn s op B m c' g o/\¬X g/\VTs w X K (ay_ d) [i_ kd,i_ nn,.string s,i_ op,.slice B m c']/\pE [i_ kd,i_ nn,.string s,i_ op,.slice B m c']:=by
 obtain ⟨g,o,us,rfl,hg,hX,hu,A0,hc⟩:=h.el hk;have A1:=A0;obtain ⟨A2,n',s',A3,A',m',c',rfl,_,_,_⟩:=A0;rw [dx_] at hc;exact ⟨A2,n',s',A3,A',m',c',g,o,⟨rfl,hg,hc 0 _ rfl,hc 1 _ rfl,hc 2 _ rfl,hc 3 _ rfl,hc 4 _ rfl⟩,hX,hu,A1⟩
def ExC (b F:Nat) (pv:Nat->Value) (o cst:Nat) (w:World) (G:NP) (v:Value):Prop:=∀ (w':World) (G':NP) (qs':List Nat) (N':Nat) (r:Int),GC b F pv qs' N' N' o G' w'->Up w G w' G'->N'+cst<=10000000000->Calls prog 192 #[.pointer (some (a_ b)),v,i_ r] w' fun e w''=>e=.returned (.tuple #[])/\RG b F pv qs' N' o G' w' cst w''
theorem expr_step (b F:Nat) (pv:Nat->Value) (o cst:Nat) (qs:List Nat) (N:Nat) (G:NP) (w:World) (h:GC b F pv qs N N o G w) (kd n:Int) (s:ByteArray) (op:Int) (A:OA) (m c:Nat) (r:Int) (hN:N+(1+2*cst)<=10000000000) (h4:kd=4->1<=m) (h5:kd=5->2<=m)
  (hk:∀ k,k<m->∃ (kd' n':Int) (s':ByteArray) (op':Int) (A':OA) (m' c' g o':Nat),ExE w A k kd' n' s' op' A' m' c' g o'/\¬G g/\ExC b F pv o cst w G (.agg #[i_ kd',i_ n',.string s',i_ op',.slice A' m' c'])) :
  Calls prog 192 #[.pointer (some (a_ b)),.agg #[i_ kd,i_ n,.string s,i_ op,.slice A m c],i_ r] w fun e w'=>e=.returned (.tuple #[])/\RG b F pv qs N o G w (1+2*cst) w':=by
 obtain ⟨W,hW,A4,Ae,B0⟩:=af_ w [i_ kd,i_ n,.string s,i_ op,.slice A m c] 209;have U0:Up w G W G:=Up.of_below A4;have HU:=q_ U0;have H:=q_ (h.below A4);have Ab:¬G w:=fun hx=>Nat.lt_irrefl _ (h.lt _ hx)
 have KC:=h_ (∀ (w':World) (G':NP),Up W G w' G'->ExB w' w kd n s op A m c) (fun w' G' u=>by
  have hc:∀ j,w'.cell? (f_ w j)=W.cell? (f_ w j):=fun j=>u.kp.cell o_ Ab
  exact ⟨(hc _).trans (B0.2.1 0 _ rfl),(hc _).trans (B0.2.1 1 _ rfl),(hc _).trans (B0.2.1 2 _ rfl),(hc _).trans (B0.2.1 3 _ rfl),(hc _).trans (B0.2.1 4 _ rfl)⟩)
 have HK:=q_ hk;obtain ⟨x0,x1,x2,x3,x4⟩:=KC.o W G (Up.refl _ _);clear B0 A4 Ae h hk U0 Ab;go_enter func192,ntmps192;go_upto_region 1 with fail;rw [<-hW];clear hW;by_cases hk1:kd=1
 ·subst hk1;exact vk_
 by_cases hk2:kd=2
 ·subst hk2;exact vk_
 by_cases hk3:kd=3
 ·subst hk3;go_wp2_with fail;refine (ev_ b F pv qs N o G W H.o s).mono ?_;rintro e W1 ⟨⟨vi,rfl⟩,A1⟩;have H1:=q_ (H.o.below A1);have U1:=q_ (HU.o.trans (Up.of_below A1));clear A1 x0 x1 x2 x3 x4;go_wp2_with (go_at_call 112;refine (bv_ b F pv qs N o G W1 H1.o o_ _ _ _ _ _).mono ?_;rintro e w1 hp;obtain rfl:=hp.1;have R1:=q_ (RG.put hp);clear hp);refine end0 rfl rfl ?_;exact ⟨rfl,(RG.seq (k1:=0) U1.o (fun _ h=>h) (l_) (l_) R1.o).more o_⟩
 by_cases hk4:kd=4
 ·subst hk4;have Ai:(0:Int)<(m:Int):=by have:=h4 rfl;omega
  obtain ⟨kd',n',s',op',A',m',c',g,o',hE,hg,hC⟩:=HK.o 0 o_;obtain ⟨rfl,Ag,z0,z1,z2,z3,z4⟩:=hE.up HU.o hg;simp only [Nat.zero_mul,Nat.add_zero] at z0 z1 z2 z3 z4;have HC:=q_ hC;clear hE hC;go_wp2_with fail;refine (HC.o W G qs N r H.o HU.o o_).mono ?_;rintro e W1 ⟨rfl,G1,A7,N1,H1,A6,A9,Aa,U1⟩;clear x0 x1 x2 x3 x4 z0 z1 z2 z3 z4;obtain ⟨x0,x1,x2,x3,x4⟩:=KC.o W1 G1 U1.o;go_wp2_with (go_at_call 112;refine (bv_ b F pv A7 N1 o G1 W1 H1.o o_ _ _ _ _ _).mono ?_;rintro e w1 hp;obtain rfl:=hp.1;have R1:=q_ (RG.put hp);clear hp);refine end0 rfl rfl ?_;exact ⟨rfl,(RG.seq (k1:=cst) (HU.o.trans U1.o) A6 A9 Aa R1.o).more o_⟩
 by_cases hk5:kd=5
 ·subst hk5;have Al:(0:Int)<(m:Int):=by have:=h5 rfl;omega
  have Ai:(1:Int)<(m:Int):=by have:=h5 rfl;omega
  obtain ⟨kd',n',s',op',A',m',c',g,o',hE,hg,hC⟩:=HK.o 0 o_;obtain ⟨Ao,n2,s2,Ap,A2,m2,c2,g2,o2,A3,A5,A8⟩:=HK.o 1 o_;obtain ⟨hA,Ag,z0,z1,z2,z3,z4⟩:=hE.up HU.o hg;subst hA;simp only [Nat.zero_mul,Nat.add_zero] at z0 z1 z2 z3 z4;have Ad:=q_ (A3.up HU.o A5);have Af:=(A3.up HU.o A5).lt;have HC:=q_ hC;have Ac:=q_ A8;clear hE hC A3 A8;go_wp2_with fail;refine (HC.o W G qs N r H.o HU.o o_).mono ?_;rintro e W1 ⟨rfl,G1,A7,N1,H1,A6,A9,Aa,U1⟩;clear x0 x1 x2 x3 x4 z0 z1 z2 z3 z4;obtain ⟨x0,x1,x2,x3,x4⟩:=KC.o W1 G1 U1.o;obtain ⟨A0,Ah,z0,z1,z2,z3,z4⟩:=Ad.o.up U1.o A5;injection A0 with A0;injection A0 with e1 e2 e3;subst e1 e2;simp only [Nat.one_mul] at z0 z1 z2 z3 z4;go_wp2_with fail;refine (Ac.o W1 G1 A7 N1 _ H1.o (HU.o.trans U1.o) o_).mono ?_;rintro e W2 ⟨rfl,G2,Ak,N2,H2,Aj,Am,An,U2⟩;clear x0 x1 x2 x3 x4 z0 z1 z2 z3 z4;obtain ⟨x0,x1,x2,x3,x4⟩:=KC.o W2 G2 (U1.o.trans U2.o);go_wp2_with (go_at_call 112;refine (bv_ b F pv Ak N2 o G2 W2 H2.o o_ _ _ _ _ _).mono ?_;rintro e w1 hp;obtain rfl:=hp.1;have R1:=q_ (RG.put hp);clear hp);refine end0 rfl rfl ?_;exact ⟨rfl,(RG.seq (k1:=cst+cst) ((HU.o.trans U1.o).trans U2.o) (fun q hq=>Aj q (A6 q hq)) o_ o_ R1.o).more o_⟩
 by_cases hk6:kd=6
 ·subst hk6;exact vk_
 go_wp2;refine end0 rfl rfl ?_;exact ⟨rfl,(RG.zero H.o HU.o).more o_⟩
theorem expr_g (b F:Nat) (pv:Nat->Value) (o:Nat):∀ (d:Nat) (vs:VL) (w:World) (G:NP),VTs w G 20 (ay_ d) vs->pE vs->ExC b F pv o (ce d) w G (.agg vs.toArray)
 | 0,vs,w,G,hv,hp=>fun w' G' A0 N' r hg u hN=>by
  obtain ⟨kd,n,s,op,A,c,rfl⟩:=hv.expr0;obtain ⟨_,_,_,_,_,m',_,e,h4,h5,_⟩:=hp;injection e with e0 e;injection e with e1 e;injection e with e2 e;injection e with e3 e;injection e with e4 e;injection e0 with _ e0;injection e4 with _ e4 _;subst e0 e4;exact (expr_step b F pv o 0 A0 N' G' w' hg _ _ _ _ _ _ _ _ (by show N'+1<=_;exact hN) h4 h5 (fun k hk=>o_))
 | d+1,vs,w,G,hv,hp=>fun w' G' A0 N' r hg u hN=>by
  have A2:=hv.go u (l_);obtain ⟨kd,n,s,op,A,m,c,rfl,A1⟩:=A2.expr;obtain ⟨_,_,_,_,_,_,_,e,h4,h5,_⟩:=hp;injection e with e0 e;injection e with e1 e;injection e with e2 e;injection e with e3 e;injection e with e4 e;injection e0 with _ e0;injection e4 with _ e4 _;subst e0 e4;refine expr_step b F pv o (ce d) A0 N' G' w' hg _ _ _ _ _ _ _ _ hN h4 h5 (fun k hk=>?_);obtain ⟨A3,nn,s',A4,B,m',c',g,o',h1,h2,h3,h4⟩:=A1.ex hk;exact ⟨A3,nn,s',A4,B,m',c',g,o',h1,h2,expr_g b F pv o d _ w' G' h3 h4⟩
def Pr (b:Nat) (J:NP) (w:World) (Y:NP) (C:Nat->VL) (w':World) (Y':NP) (C':Nat->VL):Prop:=Up w Y w' Y'/\(∀ q,q≠b->q<w->C' q=C q)/\∀ j,J j->(C' b)[j]?=(C b)[j]?
def Lc (w:World) (Y:NP) (q:Nat) (cs:VL):Prop:=Bx w q cs/\¬Y q
section
variable {X Z Y Y' Y2 J J':NP} {w0 w w' w2:World} {LL:List LV} {b q K L:Nat} {l:List In} {pc:Int} {C C' C2:Nat->VL} {cs:VL}
theorem Pr.refl (b:Nat) (J:NP) (w:World) (Y:NP) (C:Nat->VL):Pr b J w Y C w Y C:=⟨Up.refl _ _,fun _ _ _=>rfl,fun _ _=>rfl⟩
theorem Pr.trans (h:Pr b J w Y C w' Y' C') (h2:Pr b J' w' Y' C' w2 Y2 C2) (hJ:∀ j,J j->J' j):Pr b J w Y C w2 Y2 C2 :=
 ⟨h.1.trans h2.1,fun q hq A0=>(h2.2.1 q hq (lt_ A0 h.1.kp.size)).trans (h.2.1 q hq A0),fun j hj=>(h2.2.2 j (hJ j hj)).trans (h.2.2 j hj)⟩
theorem Pr.below (h:Pr b J w Y C w' Y' C') (hb:Below w' w' w2):Pr b J w Y C w2 Y' C':=⟨h.1.trans (.of_below hb),h.2.1,h.2.2⟩
theorem Pr.ms (h:Pr b J w Y C w' Y' C') (hs:OneS X Z w0 LL b K L l pc Y' C' w'):Ms X Z w0 LL b K L l pc Y C w w' J:=⟨Y',C',hs,h.1,h.2.1,h.2.2⟩
theorem Lc.up (h:Lc w Y q cs) (u:Up w Y w' Y'):Lc w' Y' q cs:=⟨h.1.kp u.kp h.2,u.no q h.1.1 h.2⟩
theorem Lc.cell {j:Nat} {v:Value} (h:Lc w Y q cs) (hv:cs[j]?=some v):w.cell? (f_ q j)=some v:=h.1.2.1 j v hv
theorem mv_kind {l:List In} {pc kd:Int} {vs:VL} (h:vs[38]?=some (i_ kd)) (hk:1<=kd/\kd<=3):Mv l pc vs:=fun k p h1 _ _=>by
 rw [h] at h1;injection h1 with h1;injection h1 with _ h1;exact .inl o_
theorem mv_mark {l:List In} {pc p0:Int} {vs:VL} (h:vs[39]?=some (i_ p0)) (hm:opAt l p0=21):Mv l pc vs:=fun k p _ h2 _=>by
 rw [h] at h2;injection h2 with h2;injection h2 with _ h2;subst h2;exact .inr (.inr hm)
theorem ci_ {l:List In} {pc:Int} {vs us:VL} (hm:Mv l pc vs) (e38:us[38]?=vs[38]?) (e39:us[39]?=vs[39]?) (e81:us[81]?=vs[81]?):Mv l pc us:=fun k p h1 h2 h3=>by
 rw [e38] at h1;rw [e39] at h2;rw [e81] at h3;exact hm k p h1 h2 h3
theorem OneS.set {t:CT} {v:Value} {j:Nat} (h:OneS X Z w0 LL b K L l pc Y C w) (hj:oneT[j]?=some t) (ho:de_ j=none) (h4:4<=j) (hv:VT w Y (oneK K L j) t v) (hm:Mv l pc (C b)->Mv l pc ((C b).set j v)) :
  OneS X Z w0 LL b K L l pc Y (upd C b ((C b).set j v)) (w.setCell (f_ b j) v)/\Pr b (fun i=>i≠j) w Y C (w.setCell (f_ b j) v) Y (upd C b ((C b).set j v)):=by
 obtain ⟨f,u⟩:=h.fr.set (i:=0) (j:=j) (t:=t) (v:=v) rfl hj ho hv;refine ⟨h.go f u (fun i hi=>?_) (fun h=>?_),u,fun q hq _=>ad_ _ _ hq,fun i hi=>?_⟩
 ·rw [upd_same,gs_,if_neg o_]
 ·rw [upd_same];exact hm h
 rw [upd_same,gs_,if_neg (fun e=>hi e.symm)]
theorem OneS.setCpu {vs:VL} (h:OneS X Z w0 LL b K L l pc Y C w) (hv:VTs w Y 0 cpuT vs) (hm:Mv l pc (C b)->Mv l pc (splice (C b) 39 vs)) :
  OneS X Z w0 LL b K L l pc Y (upd C b (splice (C b) 39 vs)) (w.setCells b 39 vs)/\Pr b (fun i=>i<39\/72<=i) w Y C (w.setCells b 39 vs) Y (upd C b (splice (C b) 39 vs)):=by
 obtain ⟨f,u⟩:=h.fr.part (i:=0) (o:=39) (N:=0) (us:=cpuT) (vs:=vs) rfl rfl d_ hv (fun j h1 h2=>⟨Nat.zero_le _,by
  have:j<72:=h2
  show de_ j=none
  unfold de_
  rw [if_neg o_]⟩)
 have hl:(C b).length=82:=h.fr.len (i:=0) rfl;have A1:vs.length=33:=hv.1;have out:∀ i,i<39\/72<=i->(splice (C b) 39 vs)[i]?=(C b)[i]?:=fun i hi=>by
  unfold splice;have A0:((C b).take 39).length=39:=by rw [List.length_take,hl];decide
  rcases hi with hi | hi
  ·exact uo_
  rw [List.getElem?_append_right yi_,A0,List.getElem?_append_right (by rw [A1];omega),A1,List.getElem?_drop]
  congr 1;omega
 refine ⟨h.go f u (fun i hi=>?_) (fun h=>?_),u,fun q hq _=>ad_ _ _ hq,fun i hi=>?_⟩
 ·rw [upd_same];exact out i o_
 ·rw [upd_same];exact hm h
 rw [upd_same];exact out i hi
theorem splice_pc {vs cs:VL} {p:Int} (hl:cs.length=82) (h:vs[0]?=some (i_ p)):(splice cs 39 vs)[39]?=some (i_ p):=by
 unfold splice;have A0:(cs.take 39).length=39:=by rw [List.length_take,hl];decide
 rw [List.getElem?_append_right yi_,A0,List.getElem?_append_left (by have:=(e_ h).1;omega)];exact h
theorem vts_cpu0 {X:NP} {w:World} {K:Nat} {vs:VL} (h:VTs w X K cpuT vs):VTs w X 0 cpuT vs:=by
 have A0:∀ t ∈ cpuT,t=CT.num\/t=CT.tru:=by simp [cpuT,regsT]
 refine ⟨h.1,fun j t hj=>?_⟩;obtain ⟨u,hu,hv⟩:=h.2 j t hj;rcases A0 t (List.mem_of_getElem? hj) with rfl | rfl
 ·obtain ⟨n,rfl⟩:=hv.int;exact ⟨_,hu,.num _⟩
 obtain ⟨n,rfl⟩:=hv.bool;exact ⟨_,hu,.tru _⟩
def row33 (w:World) (b o:Nat):Array Value:=((List.range 33).map fun j=>(w.cell? ⟨b,o+j,none⟩).getD undef).toArray
def row33V (w:World):Value->Array Value
 | .pointer (some ⟨b,o,none⟩)=>row33 w b o
 | _=>#[]
def dd_ (w:World) (v:Value):Prop:=∃ b o,∃ vs:VL,v=.pointer (some (f_ b o))/\vs.length=33/\w.rangeAt b o vs
theorem row33_at {w:World} {b o:Nat} {vs:VL} (hl:vs.length=33) (h:w.rangeAt b o vs):row33 w b o=vs.toArray:=by
 unfold row33
 congr 1
 apply List.ext_getElem?;intro j;by_cases hj:j<33
 ·exact u2_
 rw [List.getElem?_eq_none zp_,List.getElem?_eq_none o_]
theorem exec33 (ρ:Operand->Value) (x:Operand) (d:Option Nat) (ty:TypeId) (pos:String) (af:Array Edge) (gd:Option (Nat × Bool)) (w:World) (h:dd_ w (ρ x)) :
  Sem.run prog (execOp ρ { dst:=d,op:=.load 62 x,type:=ty,pos:=pos,after:=af,guard:=gd }) w=.ok (.value (.agg (row33V w (ρ x)))) w:=by
 obtain ⟨b,o,vs,hv,hl,ht⟩:=h;have h1:=run_loadAt_mid (P:=prog) w b o _ vs _ ht underlying62 rfl (by rw [hl];kernel_rfl);unfold execOp;simp only [hv,Sem.run_bind,h1,Result.andThen_ok,Sem.run_pure,row33V,row33_at hl ht]
theorem cpu_row {cs ds:VL} (h:Bx w b ds) (hl:ds.length=82) (e:∀ j,3<=j->j<36->ds[j]?=cs[j]?):dd_ w (.pointer (some (f_ b 3)))/\row33V w (.pointer (some (f_ b 3)))=((cs.drop 3).take 33).toArray:=by
 have hr:=h.range 3 33;have e2:(ds.drop 3).take 33=(cs.drop 3).take 33:=by
  apply List.ext_getElem?;intro j;rw [List.getElem?_take,List.getElem?_take,List.getElem?_drop,List.getElem?_drop];split
  ·exact e (3+j) o_ o_
  rfl
 have A0:((ds.drop 3).take 33).length=33:=by rw [List.length_take,List.length_drop,hl];decide
 refine ⟨⟨b,3,_,rfl,A0,hr⟩,?_⟩;show row33 w b 3=_
 rw [row33_at A0 hr,e2]
end
theorem SlT.less' {X Y:NP} {w:World} {K:Nat} {e:List CT} {A:OA} {n c:Nat} (h:SlT w X K e A n c) (hXY:∀ k,k<w.heap.size->Y k->X k):SlT w Y K e A n c:=h.kept (Kp.refl _ _) (fun k hk hx hy=>hx (hXY k hk hy)) (l_)
theorem Asked_t (X:NP) (K:Nat) (A:OA) (n c:Nat) (v s:Int) (l:List In) (HA:OA) (hn hc:Nat) (k:Nat) (ans:Int) (w:World) (hco:SlT w X K aw_ A n c) (hl:Sl w w.heap.size 5 In.cells A n l) (hk:k<n) (hh:SlT w X K objT HA hn hc) (hK:K<=900000000) (hX:∀ k,X k->k<w.heap.size) :
  Calls prog 77 #[.agg #[.slice A n c,i_ v,i_ s],.agg #[.slice HA hn hc],i_ (k:Int),i_ ans] w fun e w'=>RH X K e w'/\Below w w w':=by
 obtain ⟨W,hW,A5,Ai,B0,B1,B2⟩:=ei_ w [.slice A n c,i_ v,i_ s] 26 [.slice HA hn hc] 35 [.slice none 0 0] 35;have Al:l.length=n:=hl.len;obtain ⟨ab,ao,rfl,Aj,Aa⟩:=hl.at_ o_;obtain ⟨x,hx⟩:∃ x,l[k]?=some x:=⟨_,ge_ o_⟩;have H:=q_ (hh.kept (Y:=(fun k=>X k\/k=w+2)) (Kp.of_below A5) (fun k hk h1 h2=>by rcases h2 with h2 | h2;exact h1 h2;omega) (Nat.le_refl K));have Ag:=h_ (∀ w',Below W W w'->∀ k,(fun k=>X k\/k=w+2) k->k<w') (fun w' hb q hq=>by have:=hb.size;rcases hq with hq | hq;have:=hX q hq;omega;omega);have Ad:=q_ B2;have Ao:=q_ B1;have HW:=q_ A5;have KS:=h_ (∀ w',Below W W w'->(w'.cell? (a_ w)=some (.slice (some (f_ ab ao)) n c)/\w'.cell? (a_ (w+1))=some (.slice HA hn hc)/\w'.cell? ⟨ab,ao+k*5+4,none⟩=some (i_ x.n))) (fun w' hb =>
  ⟨(B0.below hb).2.1 0 _ rfl,(B1.below hb).2.1 0 _ rfl,(belc (A5.trans (hb.mono A5.size)) Aj).trans (Aa k x hx 4 _ rfl)⟩)
 have Au:(w:Nat)+2<W:=by omega
 have Ar:(k:Int)<(n:Int):=by omega
 obtain ⟨_,a1,_⟩:=KS.o W (b_);clear hco hl hh hX B0 B1 B2 A5 Ai Aa hx Al;go_enter func77,ntmps77;go_upto_region 1 with fail;rw [<-hW];clear hW;go_wp2_with fail;refine (Read_t (fun k=>X k\/k=w+2) K HA hn hc 1 0 W H.o o_).mono ?_;rintro e S ⟨⟨⟨fr,fn⟩,ok,rfl⟩,hS⟩;obtain ⟨V,hV,A9,Ah,V0⟩:=af_ S [.bool fr,i_ fn] 38;have A0:=h_ (Below W W V) (hS.trans (A9.mono hS.size));have HV:=q_ V0;have v1:=V0.2.1 1 _ rfl;obtain ⟨a0,a1,a2⟩:=KS.o V A0.o;have Ap:(W:Nat)<=S:=hS.size;have Aq:(S:Nat)<V:=by omega
 have Ak:ab<V:=by omega
 have Av:(w:Nat)+2<V:=by omega
 have An:(w:Nat)+1<V:=by omega
 have Am:(w:Nat)<V:=by omega
 clear hS A9 Ah V0;have A1:=h_ (Below V V V.drew) (Below.drew (b_));have A2:=h_ (Below V V (V.drew.alloc (.cells #[.slice none 0 0] 35))) ((Below.drew (b_)).alloc (l_) _);have HZ:=h_ (Bx (V.drew.alloc (.cells #[.slice none 0 0] 35)) V [.slice none 0 0]) (Bx.new V.drew [.slice none 0 0] 35);have HH:=h_ (∀ w',Below V V w'->SlT w' (fun k=>X k\/k=w+2) K objT HA hn hc) (fun w' hb=>H.o.up (Kp.of_below (A0.o.trans (hb.mono A0.o.size))) (l_));have A8:=h_ (∀ w',Below V V w'->∀ k,(fun k=>X k\/k=w+2) k->k<w') (fun w' hb=>Ag.o w' (A0.o.trans (hb.mono A0.o.size)));go_upto_region 2 with fail;rw [<-hV];clear hV;go_cut [11,12] (fun p ok wx=>∃ (q:Nat) (oA:OA) (on oc:Nat) (ob:Bool),p=.pointer (some (a_ q))/\ok=.bool ob/\V<=q/\Hid (Bx wx q [.slice oA on oc])/\Hid (SlT wx (fun k=>X k\/k=w+2) K objT oA on oc)/\Hid (Below V V wx))
 case first =>
  have KV:=h_ (∀ w':World,Below V V w'->(w'.cell? (a_ w)=some (.slice (some (f_ ab ao)) n c)/\w'.cell? (a_ (w+1))=some (.slice HA hn hc)/\w'.cell? ⟨ab,ao+k*5+4,none⟩=some (i_ x.n)/\w'.cell? (f_ S 1)=some (i_ fn))) (fun w' hb=>⟨(KS.o w' (A0.o.trans (hb.mono A0.o.size))).1,(KS.o w' (A0.o.trans (hb.mono A0.o.size))).2.1,(KS.o w' (A0.o.trans (hb.mono A0.o.size))).2.2,(HV.o.below hb).2.1 1 _ rfl⟩);clear v1 a0 a1 a2;refine aq_ (S:=fun w':World=>w'.cell? (a_ w)=some (.slice (some (f_ ab ao)) n c)/\w'.cell? (a_ (w+1))=some (.slice HA hn hc)/\w'.cell? ⟨ab,ao+k*5+4,none⟩=some (i_ x.n)/\w'.cell? (f_ S 1)=some (i_ fn)) rfl (KV.o _ A1.out) (fun _=>?_);go_simp;refine aa_ 0 19 ?_;refine aa_ 1 20 ?_;refine aa_ 2 21 ?_;refine aa_ 3 22 ?_;refine aa_ 4 23 ?_;refine aa_ 5 24 ?_;refine aa_ 6 25 ?_;refine aa_ 7 26 ?_;refine aa_ 8 27 ?_;refine aa_ 9 28 ?_;refine aa_ 10 29 ?_;refine aa_ 11 30 ?_;refine wpAnyH_ready (rs:=[12,16]) k_ t_ (AllReadyH.cons rfl (fun K hK=>?_) (AllReadyH.cons rfl (fun K hK=>?_) AllReadyH.nil))
  ·go_simp;go_at_call 129;refine (Write_t (fun k=>X k\/k=w+2) _ HA hn hc fn _ ⟨false,ans⟩ V.drew (HH.o _ A1.out) o_ (A8.o _ A1.out)).mono ?_;rintro e S2 ⟨⟨oA,on,oc,ob,rfl,ho⟩,A3⟩;have BS:=h_ (Below V V S2) (A1.out.trans A3);clear A3;refine hK.out _ _ (KV.o _ BS.o) (fun _=>?_);refine aa_ 13 18 ?_;refine aa_ 14 32 ?_;refine aa_ 15 33 ?_;refine ba_ 16 k_ rfl (fun K hK=>?_);go_simp;have Ac:=q_ (BS.o.alloc BS.o.size (.cells #[.slice none 0 0] 35));have z0:=(Bx.new S2 [.slice none 0 0] 35).2.1 0 _ rfl;have zf:=(Bx.new S2 [.slice none 0 0] 35).2.2;refine hK.out _ _ (KV.o _ Ac.o) (fun _=>?_);refine bc_ 17 fun K hK=>?_
   go_simp;have A6:=q_ (BS.o.alloc BS.o.size (.cells #[.slice oA on oc] 35));refine hK.out _ _ (KV.o _ A6.o) (fun _=>?_);refine aa_ 18 12 ?_;refine wpAnyH_done k_ ?_ _;go_wp2_with fail;go_meet;exact ⟨S2,oA,on,oc,ob,rfl,rfl,BS.o.size,q_ (Bx.new S2 [.slice oA on oc] _),q_ (ho.o.up (Kp.of_below ((b_).alloc (l_) _)) (l_)),q_ (BS.o.alloc BS.o.size _)⟩
  go_simp;refine hK.out _ _ (KV.o _ A2.out) (fun _=>?_);refine bc_ 12 fun K hK=>?_
  go_simp;go_at_call 129;refine (Write_t (fun k=>(fun k=>X k\/k=w+2) k\/k=V) _ HA hn hc fn _ ⟨false,ans⟩ (V.drew.alloc (.cells #[.slice none 0 0] 35)) ((HH.o _ A1.out).kept (Kp.of_below ((b_).alloc (l_) _)) (fun k hk h1 h2=>by rcases h2 with h2 | h2;exact h1 h2;exact absurd h2 (Nat.ne_of_lt hk)) (l_)) o_ (fun k hk=>by rcases hk with hk | rfl;exact A8.o _ A2.out k hk;simp)).mono ?_;rintro e S2 ⟨⟨oA,on,oc,ob,rfl,ho⟩,A3⟩;have BS:=h_ (Below V V S2) (A2.out.trans (A3.mono A2.out.size));have BZ:=q_ (HZ.o.below A3);have z0:=BZ.o.2.1 0 _ rfl;have zf:=BZ.o.2.2;clear A3;refine hK.out _ _ (KV.o _ BS.o) (fun _=>?_);refine aa_ 13 18 ?_;refine aa_ 14 32 ?_;refine aa_ 15 33 ?_;refine ba_ 17 k_ rfl (fun K hK=>?_);go_simp;have A6:=h_ (Below V V (S2.setCell (a_ V) (.slice oA on oc))) (BS.o.setCell (l_) _);refine hK.out _ _ (KV.o _ A6.o) (fun _=>?_);refine aa_ 18 12 ?_;refine wpAnyH_done k_ ?_ _;go_wp2_with fail;go_meet;exact ⟨V,oA,on,oc,ob,rfl,rfl,l_,q_ (BZ.o.set 0 _),q_ ((ho.o.up ((Kp.refl _ _).setCell (.inl (.inr rfl)) _) (l_)).less' (fun k _ hk=>.inl hk)),q_ (BS.o.setCell (l_) _)⟩
 obtain ⟨q,oA,on,oc,ob,rfl,rfl,hq,hB,hO,Ab⟩:=hcut;have A7:=h_ (Below W W wc) (A0.o.trans (Ab.o.mono A0.o.size));have A4:=q_ (Ad.o.below A7.o);have HF:=h_ (Below w w wc) (HW.o.trans (A7.o.mono HW.o.size));have r0:=A4.o.2.1 0 _ rfl;have rf:=A4.o.2.2;have As:(w:Nat)+2<wc:=A4.o.1;have b0:=hB.o.2.1 0 _ rfl;obtain ⟨_,c1,_⟩:=KS.o wc A7.o;have Af:=hO;have Ae:=q_ (HH.o wc Ab.o);clear a0 a1 a2 v1;cases ob
 case false =>
  go_wp2;refine retC results77 za_ underlying35 rfl k_ (cs:=[_]) (A4.o.set 0 _).whole rfl ?_;exact ⟨⟨HA,hn,hc,rfl,q_ ((Ae.o.up ((Kp.refl _ _).setCell (.inl (.inr rfl)) _) (l_)).less' (fun k _ hk=>.inl hk))⟩,(bel HF.o)⟩
 go_wp2;refine retC results77 za_ underlying35 rfl k_ (cs:=[_]) (A4.o.set 0 _).whole rfl ?_;exact ⟨⟨oA,on,oc,rfl,q_ ((Af.o.up ((Kp.refl _ _).setCell (.inl (.inr rfl)) _) (l_)).less' (fun k _ hk=>.inl hk))⟩,(bel HF.o)⟩
theorem RnK.imp {P:Program} {Q:Exit->Act->World->Prop} {X:XE} {Inv:World->Prop} {κ κ':SK X} {o:Oper} {a:Act} {w:World} (h:RnK P Q X Inv κ o a w) (hi:∀ w v,κ.p w v->κ'.p w v):RnK P Q X Inv κ' o a w:=fun K hK=>h K (fun v w' h1 h2 h3 h4=>hK v w' h1 h2 h3 (hi _ _ h4))
section
variable {Q:Exit->Act->World->Prop} {X:XE} {Inv:World->Prop} {o:Oper} {a:Act} {w:World} {d b lp:Nat}
theorem rk_ol8 {x0 x1 x2 x3 x4 x5 x6 x7:Operand} {D B:Nat} {hB:∀ k,X k->k<B} (hBw:B<=w) (hC:IC d b lp X Inv) (ho:o.op=.buildSlice 192 8 #[(0,x0),(1,x1),(2,x2),(3,x3),(4,x4),(5,x5),(6,x6),(7,x7)]) (h0:(kSt X D).p w (a.eval x0)) (h1:(kSt X D).p w (a.eval x1)) (h2:(kSt X D).p w (a.eval x2)) (h3:(kSt X D).p w (a.eval x3)) (h4:(kSt X D).p w (a.eval x4)) (h5:(kSt X D).p w (a.eval x5)) (h6:(kSt X D).p w (a.eval x6)) (h7:(kSt X D).p w (a.eval x7)) (hI:Inv w):RnK prog Q X Inv (kOl X B hB D 8) o a w:=by
 obtain ⟨Ao,BI,Bj,BA,AN,AV,Br,Bb,A0,Ax,A8,B3,AF,Ag,h0,v0⟩:=h0;obtain ⟨Ap,BJ,Bk,BB,AO,AW,Bs,Bc,A1,Ay,A9,B4,AG,Ah,h1,v1⟩:=h1;obtain ⟨Aq,BK,Bl,BC,AP,AX,Bt,Bd,A2,Az,Aa,B5,AH,Ai,h2,v2⟩:=h2;obtain ⟨Ar,BL,Bm,BD,AQ,AY,Bu,Be,A3,AA,Ab,B6,AI,Aj,h3,v3⟩:=h3;obtain ⟨As,BM,Bn,BE,AR,AZ,Bv,Bf,A4,AB,Ac,B7,AJ,Ak,h4,v4⟩:=h4;obtain ⟨Au,BN,Bo,BF,AS,B0,Bw,Bg,A5,AC,Ad,B8,AK,Al,h5,v5⟩:=h5;obtain ⟨Av,BO,Bp,BG,AT,B1,By,Bh,A6,AD,Ae,B9,AL,Am,h6,v6⟩:=h6;obtain ⟨Aw,BP,Bq,BH,AU,B2,Bz,Bi,A7,AE,Af,Ba,AM,An,h7,v7⟩:=h7;generalize hr:a.eval=r at h0 h1 h2 h3 h4 h5 h6 h7;have hl:=OwP.lit (n:=8) (w:=w) (X:=X) (p:=pS) (e:=ah_ D) (K:=20) 212 [stL Ao BI Bj BA AN AV Br Bb A0 Ax A8 B3 AF Ag,stL Ap BJ Bk BB AO AW Bs Bc A1 Ay A9 B4 AG Ah,stL Aq BK Bl BC AP AX Bt Bd A2 Az Aa B5 AH Ai,stL Ar BL Bm BD AQ AY Bu Be A3 AA Ab B6 AI Aj,stL As BM Bn BE AR AZ Bv Bf A4 AB Ac B7 AJ Ak,stL Au BN Bo BF AS B0 Bw Bg A5 AC Ad B8 AK Al,stL Av BO Bp BG AT B1 By Bh A6 AD Ae B9 AL Am,stL Aw BP Bq BH AU B2 Bz Bi A7 AE Af Ba AM An] rfl d_ d_ (fun vs hv=>by
  simp only [List.mem_cons,List.not_mem_nil,or_false] at hv
  rcases hv with rfl | rfl | rfl | rfl | rfl | rfl | rfl | rfl
  ·exact v0
  ·exact v1
  ·exact v2
  ·exact v3
  ·exact v4
  ·exact v5
  ·exact v6
  exact v7) (hC.lt w hI)
 refine rk_to (v:=.slice (some (a_ w)) 8 8) (w':=w.alloc (.cells ([stL Ao BI Bj BA AN AV Br Bb A0 Ax A8 B3 AF Ag,stL Ap BJ Bk BB AO AW Bs Bc A1 Ay A9 B4 AG Ah,stL Aq BK Bl BC AP AX Bt Bd A2 Az Aa B5 AH Ai,stL Ar BL Bm BD AQ AY Bu Be A3 AA Ab B6 AI Aj,stL As BM Bn BE AR AZ Bv Bf A4 AB Ac B7 AJ Ak,stL Au BN Bo BF AS B0 Bw Bg A5 AC Ad B8 AK Al,stL Av BO Bp BG AT B1 By Bh A6 AD Ae B9 AL Am,stL Aw BP Bq BH AU B2 Bz Bi A7 AE Af Ba AM An]:List (VL)).flatten.toArray 212)) (by rw [hr];simp [execOp,ho,h0,h1,h2,h3,h4,h5,h6,h7,go_sem];rfl) (.of_below (av_ w _ _)) (hC.ex w _ hI (.of_below (av_ w _ _))) ?_ (hC.below hI (av_ w _ _));exact ⟨_,rfl,OwP.mono hl hBw⟩
end
theorem wp_store1 {Q:Exit->Act->World->Prop} {o:Oper} {a:Act} {w:World} {K:Act->World->Prop} {x y:Operand} {p:Addr} {A:OA} {n c:Nat} {u:Value} (ho:o.op=.store 192 x y) (hx:a.eval x=.pointer (some p)) (hy:a.eval y=.slice A n c) (hc:w.cell? p=some u) (hf:w.frozen? p=false) (h:K (a.put o.dst undef) (w.setCell p (.slice A n c))):o.wp prog a w K Q:=by
 have hr:(execOp a.eval o).run prog w=.ok .skip (w.setCell p (.slice A n c)):=by
  generalize hr:a.eval=r at hx hy;rw [hr] at *;simp [execOp,ho,hx,hy,hc,hf,go_sem]
 unfold Oper.wp;rw [hr];exact h
structure FnV (X:NP) (g z:Nat) (S:ByteArray) (w:World):Prop where
 zl:z<=w
 gz:g<z
 bx:∃ cs,Bx w g cs/\VTs w (fun k=>X k\/z<=k) 20 (cx_ 3) cs/\cs[0]?=some (.string S)
theorem FnV.up {X Z:NP} {g z:Nat} {S:ByteArray} {w w':World} (h:FnV X g z S w) (hk:Kp Z w w') (hz:∀ k,Z k->X k\/z<=k) (hg:¬Z g):FnV X g z S w':=by
 obtain ⟨cs,h1,h2,h3⟩:=h.bx;exact ⟨Nat.le_trans h.zl hk.size,h.gz,cs,h1.kp hk hg,h2.up (hk.mono (fun k _ hk=>hz k hk)) (l_),h3⟩
theorem FnV.mk' {X:NP} {g:Nat} {S:ByteArray} {w:World} {P B:OA} {np cp m c:Nat} (hb:Bx w g [.string S,.slice P np cp,.slice B m c]) (hS:S.size<=100) (hP:SlT w X 20 [.sat strP] P np cp) (hB:SlP w X 20 pS (ah_ 3) B m c):FnV X g w S w:=by
 have hv:VTs w X 20 (cx_ 3) [.string S,.slice P np cp,.slice B m c]:=VTs.cons (.sat _ _ rfl ⟨S,rfl,hS⟩) (VTs.cons hP.vt (VTs.cons hB.vt VTs.nil));exact ⟨l_,hb.1,_,hb,hv.kept (Kp.refl _ _) (fun k hk h1 h2=>by rcases h2 with h2 | h2;exact h1 h2;omega) (l_),rfl⟩
end Go.Proofs.YtfolidlmgfhkiaaGreat
