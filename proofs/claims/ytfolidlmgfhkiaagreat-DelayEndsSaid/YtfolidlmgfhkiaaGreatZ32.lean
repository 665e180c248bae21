/- Lemmas: each says what a function of the program leaves, under the conditions that it states. -/
import Derived.Test.YtfolidlmgfhkiaaGreatZ31
set_option linter.unusedVariables false
set_option linter.unusedSimpArgs false
set_option maxRecDepth 100000
set_option maxHeartbeats 4000000
namespace Go.Proofs.YtfolidlmgfhkiaaGreat
open Go.RowKit Go.Proofs.Tryz
attribute [local go_sem ↓] exec33
theorem ap_ (k:Nat) (h:k<16):oneT[4+k*2]?=some .tru/\oneT[4+k*2+1]?=some .num/\oneT[40+k*2]?=some .tru/\oneT[40+k*2+1]?=some .num:=by
 match k,h with
 | 0,_ | 1,_ | 2,_ | 3,_ | 4,_ | 5,_ | 6,_ | 7,_ | 8,_ | 9,_ | 10,_ | 11,_ | 12,_ | 13,_ | 14,_ | 15,_=>exact ⟨rfl,rfl,rfl,rfl⟩
 | n+16,h=>omega
theorem au_ (j:Nat) (h:j<72):dg_ j=none:=by unfold dg_;rw [if_neg o_]
theorem vars_m {X Z Y:NP} {w0:World} {LL:List LV} {b K L:Nat} {l:List In} {pc:Int} {C:Nat->VL} (w:World) (h:OneS X Z w0 LL b K L l pc Y C w) (hK:K<=1000000000) (hL:L<=9000) (x:In) (ha:0<=x.a/\x.a<16) :
  Calls prog 126 #[.pointer (some (a_ b)),.agg #[i_ x.op,i_ x.a,i_ x.b,i_ x.c,i_ x.n]] w fun e w'=>RB e/\Ms X Z w0 LL b K (L+20) l pc Y C w w' (fun j=>j<38):=by
 obtain ⟨V,hV,Ac,Ar,W0⟩:=af_ w [i_ x.op,i_ x.a,i_ x.b,i_ x.c,i_ x.n] 202;have H0:=q_ (h.call Ac);have I0:=h_ (Lc V Y w [i_ x.op,i_ x.a,i_ x.b,i_ x.c,i_ x.n]) (⟨W0,fun hy=>Nat.lt_irrefl _ (h.fr.lt _ hy)⟩);have P0:=q_ ((Pr.refl b (fun j=>j<38) w Y C).below Ac);have AF:=h.fr.blt (i:=0) rfl;obtain ⟨op,xa,xb,xc,xn⟩:=x;obtain ⟨k,hk,rfl⟩:∃ k:Nat,k<16/\xa=(k:Int):=⟨xa.toNat,by have:=ha;simp at this;omega,by have:=ha;simp at this;omega⟩;have v0:=W0.2.1 0 _ rfl;have v1:=W0.2.1 1 _ rfl;have v4:=W0.2.1 4 _ rfl;have AH:(w:Nat)<V:=by omega
 have AE:b<V:=by omega
 clear h Ac Ar W0 ha;go_enter func126,ntmps126;go_upto_region 1 with fail;rw [←hV];clear hV;have AG:(k:Int)<16:=by omega
 by_cases hop:op=8∨op=9∨op=10∨op=20
 ·obtain ⟨rt,r0,_⟩:=H0.o.fr.tru (i:=0) rfl (j:=4+k*2) (ap_ k hk).1 (au_ _ o_);obtain ⟨rn,r1,_⟩:=H0.o.fr.num (i:=0) rfl (j:=4+k*2+1) (ap_ k hk).2.1 (au_ _ o_);rcases hop with rfl | rfl | rfl | rfl
  ·go_upto_region 3 with fail;go_cut [5] (fun p wx=>∃ q:Nat,p=.pointer (some (a_ q))/\V<=q/\Hid (Bx wx q [.bool rt,i_ rn])/\Hid (Below V V wx))
   case first =>
    exact cuF
   obtain ⟨q,rfl,hq,hB,A1⟩:=hcut;have H1:=q_ (H0.o.call A1.o);have I1:=q_ (I0.o.up (Up.of_below A1.o));have P1:=q_ (P0.o.below A1.o);have Q1:=h_ (Lc wc Y q [.bool rt,i_ rn]) (⟨hB.o,fun hy=>by have:=H0.o.fr.lt _ hy;omega⟩);have y0:=I1.o.cell (j:=0) rfl;have y1:=I1.o.cell (j:=1) rfl;have y4:=I1.o.cell (j:=4) rfl;clear v0 v1 v4 r0 r1 hB;go_wp2_with fail;refine (variable_m wc H1.o hK o_ xn).mono ?_;rintro e W2 ⟨⟨f,kk,ok,rfl⟩,Y2,C2,h2,p2⟩;have H2:=q_ h2;have I2:=q_ (I1.o.up p2.1);have P2:=q_ (P1.o.trans p2 (fun j hj=>.inl hj));clear y0 y1 y4 h2 p2;cases ok
   case false =>
    go_wp2;go_ret;exact ⟨⟨_,rfl⟩,P2.o.ms (H2.o.raise o_)⟩
   have y0:=I2.o.cell (j:=0) rfl;have y1:=I2.o.cell (j:=1) rfl;go_wp2_with fail;refine (dy_ W2 H2.o hK o_ f kk).mono ?_;rintro e W3 ⟨⟨v,rfl⟩,Y3,C3,h3,p3⟩;obtain ⟨U,hU,A0,A7,U3⟩:=af_ W3 [.bool v.ref,i_ v.n] 38;have H3:=q_ (h3.call A0);have I3:=q_ ((I2.o.up p3.1).up (Up.of_below A0));have P3:=q_ ((P2.o.trans p3 (fun j hj=>⟨o_,o_⟩)).below A0);have u0:=U3.2.1 0 _ rfl;have u1:=U3.2.1 1 _ rfl;have z0:=I3.o.cell (j:=0) rfl;have z1:=I3.o.cell (j:=1) rfl;obtain ⟨AJ,r0,_⟩:=H3.o.fr.tru (i:=0) rfl (j:=40+k*2) (ap_ k hk).2.2.1 (au_ _ o_);obtain ⟨AI,r1,_⟩:=H3.o.fr.num (i:=0) rfl (j:=40+k*2+1) (ap_ k hk).2.2.2 (au_ _ o_);have fb:=H3.o.fr.fz (i:=0) rfl;clear h3 p3 A0 A7 U3 y0 y1;go_upto_region 11 with fail;rw [←hU];clear hU;go_upto_region 13 with fail;go_region_law fail;all_goals
    obtain ⟨h5,p5⟩:=(H3.o.call (Below.drew (b_))).set (j:=40+k*2) (t:=.tru) (v:=.bool v.ref) (ap_ k hk).2.2.1 (au_ _ o_) o_ (.tru _) (fun hm=>cf_ hm (by rw [gs_,if_neg o_]) (by rw [gs_,if_neg o_]) (by rw [gs_,if_neg o_]));obtain ⟨h6,p6⟩:=h5.set (j:=40+k*2+1) (t:=.num) (v:=i_ v.n) (ap_ k hk).2.2.2 (au_ _ o_) o_ (.num _) (fun hm=>cf_ hm (by rw [gs_,if_neg o_]) (by rw [gs_,if_neg o_]) (by rw [gs_,if_neg o_]));go_wp2;go_ret;exact ⟨⟨_,rfl⟩,(((P3.o.below (Below.drew (b_))).trans p5 (fun j hj=>o_)).trans p6 (fun j hj=>o_)).ms (h6.raise o_)⟩
  ·go_upto_region 3 with fail;go_cut [5] (fun p wx=>∃ q:Nat,p=.pointer (some (a_ q))/\V<=q/\Hid (Bx wx q [.bool rt,i_ rn])/\Hid (Below V V wx))
   case first =>
    exact cuF
   obtain ⟨q,rfl,hq,hB,A1⟩:=hcut;have H1:=q_ (H0.o.call A1.o);have I1:=q_ (I0.o.up (Up.of_below A1.o));have P1:=q_ (P0.o.below A1.o);have Q1:=h_ (Lc wc Y q [.bool rt,i_ rn]) (⟨hB.o,fun hy=>by have:=H0.o.fr.lt _ hy;omega⟩);have y0:=I1.o.cell (j:=0) rfl;have y1:=I1.o.cell (j:=1) rfl;have y4:=I1.o.cell (j:=4) rfl;clear v0 v1 v4 r0 r1 hB;go_wp2_with fail;refine (variable_m wc H1.o hK o_ xn).mono ?_;rintro e W2 ⟨⟨f,kk,ok,rfl⟩,Y2,C2,h2,p2⟩;have H2:=q_ h2;have I2:=q_ (I1.o.up p2.1);have P2:=q_ (P1.o.trans p2 (fun j hj=>.inl hj));have UQ:=q_ p2.1;clear y0 y1 y4 h2 p2;cases ok
   case false =>
    go_wp2;go_ret;exact ⟨⟨_,rfl⟩,P2.o.ms (H2.o.raise o_)⟩
   have y0:=I2.o.cell (j:=0) rfl;have y1:=I2.o.cell (j:=1) rfl;have q0:=(Q1.o.up UQ.o).cell (j:=0) rfl;have q1:=(Q1.o.up UQ.o).cell (j:=1) rfl;go_wp2_with fail;refine (ea_ W2 H2.o o_ f kk ⟨rt,rn⟩).mono ?_;rintro e W3 ⟨rfl,Y3,C3,h3,p3⟩;have H3:=q_ h3;have P3:=q_ (P2.o.trans p3 (fun j hj=>o_));clear h3 p3;go_wp2;go_ret;exact ⟨⟨_,rfl⟩,P3.o.ms (H3.o.raise o_)⟩
  ·go_upto_region 3 with fail;go_cut [5] (fun p wx=>∃ q:Nat,p=.pointer (some (a_ q))/\V<=q/\Hid (Bx wx q [.bool rt,i_ rn])/\Hid (Below V V wx))
   case first =>
    exact cuF
   obtain ⟨q,rfl,hq,hB,A1⟩:=hcut;have H1:=q_ (H0.o.call A1.o);have I1:=q_ (I0.o.up (Up.of_below A1.o));have P1:=q_ (P0.o.below A1.o);have Q1:=h_ (Lc wc Y q [.bool rt,i_ rn]) (⟨hB.o,fun hy=>by have:=H0.o.fr.lt _ hy;omega⟩);have y0:=I1.o.cell (j:=0) rfl;have y1:=I1.o.cell (j:=1) rfl;have y4:=I1.o.cell (j:=4) rfl;clear v0 v1 v4 r0 r1 hB;go_wp2_with fail;refine (variable_m wc H1.o hK o_ xn).mono ?_;rintro e W2 ⟨⟨f,kk,ok,rfl⟩,Y2,C2,h2,p2⟩;have H2:=q_ h2;have I2:=q_ (I1.o.up p2.1);have P2:=q_ (P1.o.trans p2 (fun j hj=>.inl hj));have UQ:=q_ p2.1;clear y0 y1 y4 h2 p2;cases ok
   case false =>
    go_wp2;go_ret;exact ⟨⟨_,rfl⟩,P2.o.ms (H2.o.raise o_)⟩
   have y0:=I2.o.cell (j:=0) rfl;have y1:=I2.o.cell (j:=1) rfl;have y0:=I2.o.cell (j:=0) rfl;have y2:=I2.o.cell (j:=2) rfl;go_wp2_with fail;refine (dy_ W2 H2.o hK o_ f kk).mono ?_;rintro e W3 ⟨⟨v,rfl⟩,Y3,C3,h3,p3⟩;obtain ⟨U,hU,A0,A7,U3⟩:=af_ W3 [.bool v.ref,i_ v.n] 38;have H3:=q_ (h3.call A0);have I3:=q_ ((I2.o.up p3.1).up (Up.of_below A0));have Q3:=q_ (((Q1.o.up UQ.o).up p3.1).up (Up.of_below A0));have P3:=q_ ((P2.o.trans p3 (fun j hj=>⟨o_,o_⟩)).below A0);have u0:=U3.2.1 0 _ rfl;have u1:=U3.2.1 1 _ rfl;have z0:=I3.o.cell (j:=0) rfl;have z2:=I3.o.cell (j:=2) rfl;have q0:=Q3.o.cell (j:=0) rfl;have q1:=Q3.o.cell (j:=1) rfl;clear h3 p3 A0 A7 U3 y0 y2;go_upto_region 11 with fail;rw [←hU];clear hU;go_wp2_with fail;refine (Apply_any xb v ⟨rt,rn⟩ U).mono ?_;rintro e S ⟨⟨nn,ff,rfl⟩,hS⟩;obtain ⟨T,hT,An,Aq,T3⟩:=af_ S [.bool false,i_ nn] 38;have HB:=q_ (hS.trans (An.mono hS.size));have H4:=q_ (H3.o.call HB.o);have I4:=q_ (I3.o.up (Up.of_below HB.o));have Q4:=q_ (Q3.o.up (Up.of_below HB.o));have P4:=q_ (P3.o.below HB.o);have HT:=h_ (Lc T Y3 S [.bool false,i_ nn]) (⟨T3,fun hy=>by have:=H3.o.fr.lt _ hy;have:=hS.size;omega⟩);have t0:=T3.2.1 0 _ rfl;have t1:=T3.2.1 1 _ rfl;clear hS An Aq T3 u0 u1 z0 z2 q0 q1;go_upto_region 16 with fail;rw [←hT];clear hT;by_cases hf:ff=0
   ·subst hf;go_wp2_with fail;refine (ea_ T H4.o o_ f kk ⟨false,nn⟩).mono ?_;rintro e W5 ⟨rfl,Y5,C5,h5,p5⟩;have H5:=q_ h5;have I5:=q_ (I4.o.up p5.1);have Q5:=q_ (Q4.o.up p5.1);have P5:=q_ (P4.o.trans p5 (fun j hj=>o_));have z2:=I5.o.cell (j:=2) rfl;have q0:=Q5.o.cell (j:=0) rfl;have q1:=Q5.o.cell (j:=1) rfl;obtain ⟨dA,dn,dc,AL,_,_⟩:=h5.fr.slc (i:=0) rfl (j:=75) (e:=bl_) rfl rfl;have fb:=h5.fr.fz (i:=0) rfl;have As:b<W5:=h5.fr.blt (i:=0) rfl;clear h5 p5 t0 t1;have hA:=H5.o.call (((Below.refl W5 W5).alloc (l_) (.cells #[i_ f,i_ kk,i_ xb,.bool rt,i_ rn] 174)));have Am:=SlT.lit1 (w:=W5) (X:=Y5) (K:=L+20) (e:=bl_) (vs:=[i_ f,i_ kk,i_ xb,.bool rt,i_ rn]) (VTs.cons (.num _) (VTs.cons (.num _) (VTs.cons (.num _) (VTs.cons (.tru _) (VTs.cons (.num _) VTs.nil))))) 174 (fun h=>Nat.lt_irrefl _ (H5.o.fr.lt _ h)) o_;obtain ⟨h6,p6⟩:=(hA.raise (L':=L+20) o_).set (j:=75) (t:=.sl bl_) rfl rfl d_ Am.vt (fun hm=>cf_ hm (by rw [gs_,if_neg d_]) (by rw [gs_,if_neg d_]) (by rw [gs_,if_neg d_]));have H6:=q_ h6;have P6:=q_ ((P5.o.below ((Below.refl W5 W5).alloc (l_) (.cells #[i_ f,i_ kk,i_ xb,.bool rt,i_ rn] 174))).trans p6 (fun j hj=>o_));clear hA Am h6 p6;go_wp2;go_ret;have hM:=P6.o.ms H6.o;rw [World.setCell_alloc_past _ _ _ _ As] at hM;exact ⟨⟨_,rfl⟩,hM⟩
   go_wp2_with (go_at_call 175;refine (fault_m T H4.o hK o_ ff).mono ?_;rintro e W5 ⟨rfl,h5⟩;have H5:=q_ h5;clear h5);go_ret;obtain ⟨Y5,C5,h5,p5⟩:=H5.o;exact ⟨⟨_,rfl⟩,(P4.o.trans p5 (fun j hj=>.inl hj)).ms (h5.raise o_)⟩
  go_upto_region 3 with fail;go_cut [5] (fun p wx=>∃ q:Nat,p=.pointer (some (a_ q))/\V<=q/\Hid (Bx wx q [.bool rt,i_ rn])/\Hid (Below V V wx))
  case first =>
   exact cuF
  obtain ⟨q,rfl,hq,hB,A1⟩:=hcut;have H1:=q_ (H0.o.call A1.o);have I1:=q_ (I0.o.up (Up.of_below A1.o));have P1:=q_ (P0.o.below A1.o);have Q1:=h_ (Lc wc Y q [.bool rt,i_ rn]) (⟨hB.o,fun hy=>by have:=H0.o.fr.lt _ hy;omega⟩);have y0:=I1.o.cell (j:=0) rfl;have y1:=I1.o.cell (j:=1) rfl;have y4:=I1.o.cell (j:=4) rfl;clear v0 v1 v4 r0 r1 hB;go_wp2_with fail;refine (variable_m wc H1.o hK o_ xn).mono ?_;rintro e W2 ⟨⟨f,kk,ok,rfl⟩,Y2,C2,h2,p2⟩;have H2:=q_ h2;have I2:=q_ (I1.o.up p2.1);have P2:=q_ (P1.o.trans p2 (fun j hj=>.inl hj));clear y0 y1 y4 h2 p2;cases ok
  case false =>
   go_wp2;go_ret;exact ⟨⟨_,rfl⟩,P2.o.ms (H2.o.raise o_)⟩
  have y0:=I2.o.cell (j:=0) rfl;have y0:=I2.o.cell (j:=0) rfl;go_wp2_with fail;refine (dy_ W2 H2.o hK o_ f kk).mono ?_;rintro e W3 ⟨⟨⟨vr,vn⟩,rfl⟩,Y3,C3,h3,p3⟩;obtain ⟨U,hU,A0,A7,U3⟩:=af_ W3 [.bool vr,i_ vn] 38;have H3:=q_ (h3.call A0);have I3:=q_ ((I2.o.up p3.1).up (Up.of_below A0));have P3:=q_ ((P2.o.trans p3 (fun j hj=>⟨o_,o_⟩)).below A0);have VLx:=h_ (Lc U Y3 W3 [.bool vr,i_ vn]) (⟨U3,fun hy=>Nat.lt_irrefl _ (h3.fr.lt _ hy)⟩);have u0:=U3.2.1 0 _ rfl;have u1:=U3.2.1 1 _ rfl;have z0:=I3.o.cell (j:=0) rfl;clear h3 p3 A0 A7 U3 y0;go_upto_region 11 with fail;rw [←hU];clear hU;cases vr
  case true =>
   go_wp2_with (go_at_call 175;refine (fault_m U H3.o hK o_ (-2)).mono ?_;rintro e W5 ⟨rfl,h5⟩;have H5:=q_ h5;clear h5);go_ret;obtain ⟨Y5,C5,h5,p5⟩:=H5.o;exact ⟨⟨_,rfl⟩,(P3.o.trans p5 (fun j hj=>.inl hj)).ms (h5.raise o_)⟩
  go_upto_region 25 with fail;clear z0;obtain ⟨sv,Aa⟩:=ex_ (((C3 b).drop 3).take 33);have Ad:(C3 b).length=82:=H3.o.fr.len (i:=0) rfl;have JQ:=h_ (∀ j:Nat,j<38∨72<=j->True) (fun _ _=>trivial);have L0:=q_ VLx.o;have KS:=h_ (∀ (w':World) (C':Nat->VL) {Y':NP} {L':Nat},Fr X Z w0 (oneL b K L' :: LL) Y' C' w'->Lc w' Y' W3 [.bool false,i_ vn]->(∀ j,3<=j->j<36->(C' b)[j]?=(C3 b)[j]?)->(de_ w' (.pointer (some (f_ b 3)))/\row33V w' (.pointer (some (f_ b 3)))=sv.toArray/\w'.cell? (a_ W3)=some (.bool false)/\w'.cell? (f_ W3 1)=some (i_ vn))) (fun w' C' Y' L' hf Ao he=>by
   obtain ⟨a1,a2⟩:=cpu_row (hf.box (i:=0) rfl) (hf.len (i:=0) rfl) he
   exact ⟨a1,by rw [Aa];exact a2,Ao.cell rfl,Ao.cell rfl⟩)
  have A2:VTs U Y3 0 cpuT sv:=vts_cpu0 (K:=K) ⟨by rw [Aa,List.length_take,List.length_drop,Ad];rfl,fun j t hj=>by
   have A8:j<33:=(e_ hj).1
   have Ae:oneT[3+j]?=some t:=by
    have:oneT=[.sl aw_,.num,.num] ++ (cpuT ++ ([.sl objT,.num] ++ effT ++ [.tru])):=rfl
    rw [this,List.getElem?_append_right t_,List.getElem?_append_left (by simpa [show ([.sl aw_,.num,.num]:List CT).length=3 from rfl] using (show j<cpuT.length from A8))]
    simpa using hj
   obtain ⟨u,q1,q2,q3⟩:=H3.o.fr.get (i:=0) rfl Ae (show dg_ (3+j)=none by unfold dg_;rw [if_neg o_])
   exact ⟨u,by rw [Aa,List.getElem?_take,if_pos A8,List.getElem?_drop];exact q1,by have:oneK K (L+6+1) (3+j)=K:=by { unfold oneK;rw [if_neg o_] };rw [this] at q3;exact q3⟩⟩
  have A3:=H3.o.call (Below.drew (Below.refl U U));have Af:=(Pr.refl b (fun j=>j<38) U Y3 C3).below (Below.drew (Below.refl U U));obtain ⟨Av,AK,_⟩:=A3.fr.num (i:=0) rfl (j:=38) rfl rfl;obtain ⟨Ai,Aw,_⟩:=A3.fr.tru (i:=0) rfl (j:=78) rfl rfl;obtain ⟨Aj,Ax,_⟩:=A3.fr.tru (i:=0) rfl (j:=79) rfl rfl;obtain ⟨Ak,Ay,_⟩:=A3.fr.num (i:=0) rfl (j:=80) rfl rfl;have AA:=A3.fr.fz (i:=0) rfl;have AM:U.cell? (f_ b 78)=some (.bool Ai):=Aw;have AN:U.cell? (f_ b 79)=some (.bool Aj):=Ax;have AO:U.cell? (f_ b 80)=some (i_ Ak):=Ay;have AB:=H3.o.fr.fz (i:=0) rfl;obtain ⟨Ab,Ag⟩:=A3.set (j:=38) (t:=.num) (v:=i_ 3) rfl rfl d_ (.num _) (fun _=>mv_kind (kd:=3) (by rw [gs_,if_pos rfl,if_pos o_]) d_);obtain ⟨A6,A4⟩:=Ab.set (j:=79) (t:=.tru) (v:=.bool false) rfl rfl d_ (.tru _) (fun hm=>cf_ hm (by rw [gs_,if_neg d_]) (by rw [gs_,if_neg d_]) (by rw [gs_,if_neg d_]));obtain ⟨A5,Ah⟩:=A6.set (j:=80) (t:=.num) (v:=i_ vn) rfl rfl d_ (.num _) (fun hm=>cf_ hm (by rw [gs_,if_neg d_]) (by rw [gs_,if_neg d_]) (by rw [gs_,if_neg d_]));have A9:=A2.go ((((Af.1).trans Ag.1).trans A4.1).trans Ah.1) (Nat.le_refl 0);have Au:=A5.mv;obtain ⟨Al,Ap⟩:=A5.setCpu (vs:=sv) A9 (fun _=>mv_kind (kd:=3) (by
   rw [upd_same,upd_same,upd_same]
   unfold splice
   rw [List.getElem?_append_left (by rw [List.length_take];simp [Ad]),List.getElem?_take,if_pos d_,gs_,if_neg d_,gs_,if_neg d_,gs_,if_pos rfl,if_pos o_]) d_)
  have HT:=q_ (A5.fr.there (i:=0) rfl (o:=39) (n:=sv.length) (by rw [A2.1];decide));have HI:=h_ ((prog.info? 62).map (·.size)=some sv.length) (by rw [A2.1];exact isz_62);have HO:=q_ A2;have hJ:∀ (k:Nat),(k=38∨(77<=k/\k<=80))->∀ j,j<38->j≠k:=fun k hk j hj=>by omega
  have p0:=h_ (Pr b (fun j=>j<38) U Y3 C3 _ _ _) Af;have p1:=q_ (p0.o.trans Ag (hJ 38 o_));have p2:=q_ (p1.o.trans A4 (hJ 79 o_));have p3:=q_ (p2.o.trans Ah (hJ 80 o_));have p4:=p3;have p5:=q_ (p4.o.trans Ap (fun j hj=>.inl o_));have g0:=q_ A3;have g1:=q_ Ab;have g3:=q_ A5;have g4:=q_ A5;have g5:=q_ Al;have Az:=H3;clear A3 Ab A6 A5 Al Af Ag A4 Ah Ap A2 A9 Au Aa Ad u0 u1 hJ
  -- region 25
  refine ar_ (S:=fun w':World=>de_ w' (.pointer (some (f_ b 3)))/\row33V w' (.pointer (some (f_ b 3)))=sv.toArray/\w'.cell? (a_ W3)=some (.bool false)/\w'.cell? (f_ W3 1)=some (i_ vn)) rfl (KS.o _ _ g0.o.fr (Lc.up L0.o p0.o.1) (fun j h1 h2=>p0.o.2.2 j (by show j<38;omega))) (fun _=>?_);go_simp;refine aa_ 0 110 ?_;refine aa_ 1 111 ?_;refine aa_ 2 112 ?_;refine aa_ 3 113 ?_;refine aa_ 4 114 ?_;refine aa_ 5 115 ?_;refine aa_ 6 116 ?_;refine aa_ 7 117 ?_;refine aa_ 8 118 ?_;refine aa_ 9 119 ?_;refine aa_ 10 120 ?_;refine ba_ 11 k_ rfl (fun K hK=>?_);go_simp;refine hK.out _ _ (KS.o _ _ g1.o.fr (Lc.up L0.o p1.o.1) (fun j h1 h2=>p1.o.2.2 j (by show j<38;omega))) (fun _=>?_);refine aa_ 12 121 ?_;refine aa_ 13 122 ?_;refine aa_ 14 123 ?_;refine ba_ 15 k_ rfl (fun K hK=>?_);go_simp;refine hK.out _ _ (KS.o _ _ g3.o.fr (Lc.up L0.o p3.o.1) (fun j h1 h2=>p3.o.2.2 j (by show j<38;omega))) (fun _=>?_);refine aa_ 16 124 ?_;refine aa_ 17 125 ?_;refine aa_ 18 126 ?_;refine ba_ 19 k_ rfl (fun K hK=>?_);rw [if_pos (by rfl)];refine wp_store_mid 62 (.tmp 126) (.tmp 117) rfl b 39 sv.toArray v_ v_ (by rw [List.size_toArray];exact HT.o) (by rw [List.size_toArray];exact HI.o) (by simpa using HO.o.one) ?_;refine hK.out _ _ (KS.o _ _ g5.o.fr (Lc.up L0.o p5.o.1) (fun j h1 h2=>p5.o.2.2 j (by show j<38;omega))) (fun _=>?_);try simp only [Act.put,sA,s0,s1]
  refine wpAnyH_done k_ ?_ _;go_wp2;go_ret;exact ⟨⟨_,rfl⟩,(P3.o.trans p5.o (fun j hj=>hj)).ms (g5.o.raise o_)⟩
  -- end 25
 have h8:op≠8:=fun e=>hop (.inl e)
 have h9:op≠9:=fun e=>hop (.inr (.inl e))
 have AC:op≠10:=fun e=>hop (.inr (.inr (.inl e)))
 have AD:op≠20:=fun e=>hop (.inr (.inr (.inr e)))
 go_wp2;all_goals first
  | (go_ret;exact ⟨⟨_,rfl⟩,P0.o.ms (H0.o.raise o_)⟩)
  | (exfalso;omega)
  | (exfalso;simp_all)
end Go.Proofs.YtfolidlmgfhkiaaGreat
namespace Go.Proofs.YtfolidlmgfhkiaaGreat
open Go.RowKit Go.Proofs.Tryz
section
variable {X Z Y:NP} {w0 w:World} {LL:List LV} {b K L:Nat} {l:List In} {pc:Int} {C:Nat->VL}
theorem OneS.setReg (h:OneS X Z w0 LL b K L l pc Y C w) {k:Nat} (hk:k<16) (v:Val):Ms X Z w0 LL b K L l pc Y C w ((w.setCell ⟨b,40+k*2,none⟩ (.bool v.ref)).setCell ⟨b,40+k*2+1,none⟩ (i_ v.n)) (fun j=>j<40∨72<=j):=by
 obtain ⟨h5,p5⟩:=h.set (j:=40+k*2) (t:=.tru) (v:=.bool v.ref) (ap_ k hk).2.2.1 (au_ _ o_) o_ (.tru _) (fun hm=>cf_ hm (by rw [gs_,if_neg o_]) (by rw [gs_,if_neg o_]) (by rw [gs_,if_neg o_]));obtain ⟨h6,p6⟩:=h5.set (j:=40+k*2+1) (t:=.num) (v:=i_ v.n) (ap_ k hk).2.2.2 (au_ _ o_) o_ (.num _) (fun hm=>cf_ hm (by rw [gs_,if_neg o_]) (by rw [gs_,if_neg o_]) (by rw [gs_,if_neg o_]));exact (((Pr.refl b (fun j=>j<40∨72<=j) w Y C).trans p5 (fun j hj=>o_)).trans p6 (fun j hj=>o_)).ms h6
end
theorem plain_m {X Z Y:NP} {w0:World} {LL:List LV} {b K L:Nat} {l:List In} {pc:Int} {C:Nat->VL} (w:World) (h:OneS X Z w0 LL b K L l pc Y C w) (hK:K<=1000000000) (hL:L<=9000) (i:Nat) (x:In) (hpc:pc=(i:Int)) (hx:OkI l i x) (h21:x.op≠21) :
  Calls prog 125 #[.pointer (some (a_ b)),.agg #[i_ x.op,i_ x.a,i_ x.b,i_ x.c,i_ x.n]] w fun e w'=>RB e/\Ms X Z w0 LL b K (L+20) l pc Y C w w' (fun j=>j<38):=by
 subst hpc;obtain ⟨V,hV,A3,Ac,W0⟩:=af_ w [i_ x.op,i_ x.a,i_ x.b,i_ x.c,i_ x.n] 202;have H0:=q_ (h.call A3);have I0:=h_ (Lc V Y w [i_ x.op,i_ x.a,i_ x.b,i_ x.c,i_ x.n]) (⟨W0,fun hy=>Nat.lt_irrefl _ (h.fr.lt _ hy)⟩);have P0:=q_ ((Pr.refl b (fun j=>j<38) w Y C).below A3);have HX:=q_ hx;have Ai:=h.fr.blt (i:=0) rfl;obtain ⟨k,hk,A6⟩:∃ k:Nat,k<16/\x.a=(k:Int):=⟨x.a.toNat,by have:=hx.a;omega,by have:=hx.a;omega⟩;have A1:=hx.op;obtain ⟨op,xa,xb,xc,xn⟩:=x;have A6:xa=(k:Int):=A6;subst A6;have A1:0<=op/\op<=21:=A1;have h21:op≠21:=h21;have v0:=W0.2.1 0 _ rfl;have v1:=W0.2.1 1 _ rfl;have v2:=W0.2.1 2 _ rfl;have v3:=W0.2.1 3 _ rfl;have v4:=W0.2.1 4 _ rfl;have Ak:(w:Nat)<V:=by omega
 have Ad:b<V:=by omega
 obtain ⟨rt,r0,_⟩:=H0.o.fr.tru (i:=0) rfl (j:=40+k*2) (ap_ k hk).2.2.1 (au_ _ o_);obtain ⟨rn,r1,_⟩:=H0.o.fr.num (i:=0) rfl (j:=40+k*2+1) (ap_ k hk).2.2.2 (au_ _ o_);have fb:=H0.o.fr.fz (i:=0) rfl;have Aj:(k:Int)<16:=by omega
 clear h A3 Ac W0 hx;go_enter func125,ntmps125;go_upto_region 1 with fail;rw [←hV];clear hV;by_cases h0:op=0
 ·subst h0;go_wp2;go_ret;exact ⟨⟨_,rfl⟩,P0.o.ms (H0.o.raise o_)⟩
 by_cases h1:op=1
 ·subst h1;go_upto_region 6 with fail;go_region_law fail;all_goals
   obtain ⟨Y1,C1,h5,p5⟩:=(H0.o.call (Below.drew (b_))).setReg hk ⟨false,xn⟩;go_wp2;go_ret;exact ⟨⟨_,rfl⟩,((P0.o.below (Below.drew (b_))).trans p5 (fun j hj=>.inl o_)).ms (h5.raise o_)⟩
 by_cases h2:op=2
 ·subst h2;go_upto_region 8 with fail;go_region_law fail;all_goals
   obtain ⟨Y1,C1,h5,p5⟩:=(H0.o.call (Below.drew (b_))).setReg hk ⟨true,0⟩;go_wp2;go_ret;exact ⟨⟨_,rfl⟩,((P0.o.below (Below.drew (b_))).trans p5 (fun j hj=>.inl o_)).ms (h5.raise o_)⟩
 by_cases h3:op=3
 ·subst h3;obtain ⟨kb,A0,A7⟩:∃ kb:Nat,kb<16/\xb=(kb:Int):=⟨xb.toNat,by have:=HX.o.b (show (3:Int)≠13 by decide) (show (3:Int)≠10 by decide);simp at this;omega,by have:=HX.o.b (show (3:Int)≠13 by decide) (show (3:Int)≠10 by decide);simp at this;omega⟩;subst A7;have A5:(kb:Int)<16:=by omega
  obtain ⟨st,s0,_⟩:=H0.o.fr.tru (i:=0) rfl (j:=40+kb*2) (ap_ kb A0).2.2.1 (au_ _ o_);obtain ⟨sn,s1,_⟩:=H0.o.fr.num (i:=0) rfl (j:=40+kb*2+1) (ap_ kb A0).2.2.2 (au_ _ o_);go_upto_region 10 with fail;go_region_law fail;all_goals
   obtain ⟨Y1,C1,h5,p5⟩:=(H0.o.call (Below.drew (b_))).setReg hk ⟨st,sn⟩;go_wp2;go_ret;exact ⟨⟨_,rfl⟩,((P0.o.below (Below.drew (b_))).trans p5 (fun j hj=>.inl o_)).ms (h5.raise o_)⟩
 by_cases h11:op=11
 ·subst h11;obtain ⟨Ah,Ag,_⟩:=H0.o.fr.num (i:=0) rfl (j:=39) rfl rfl;have hl:(C b).length=82:=H0.o.fr.len (i:=0) rfl;obtain ⟨h5,p5⟩:=H0.o.set (j:=39) (t:=.num) (v:=i_ xn) rfl rfl d_ (.num _) (fun _=>by
   rcases HX.o.jump (.inl rfl) with hj | hj
   ·intro kd p h1 h2 h3
    rw [gs_,if_pos rfl,if_pos o_] at h2
    injection h2 with h2
    injection h2 with _ h2
    exact .inr (.inl (by subst h2;exact hj))
   exact mv_mark (by rw [gs_,if_pos rfl,if_pos o_]) hj)
  go_wp2;go_ret;exact ⟨⟨_,rfl⟩,(P0.o.trans p5 (fun j hj=>o_)).ms (h5.raise o_)⟩
 by_cases h16:op=16
 ·subst h16;go_upto_region 26 with fail;go_region_law (go_simp;go_at_call 123;refine (throw_m V.drew (H0.o.call (Below.drew (b_))) hK o_ ⟨rt,rn⟩).mono ?_;rintro e S ⟨rfl,h5⟩;have H5:=q_ h5;clear h5);all_goals
   go_wp2;go_ret;obtain ⟨Y5,C5,h5,p5⟩:=H5.o;exact ⟨⟨_,rfl⟩,((P0.o.below (Below.drew (b_))).trans p5 (fun j hj=>.inl hj)).ms (h5.raise o_)⟩
 by_cases h12:op=12
 ·subst h12;go_upto_region 20 with fail;go_region_law (go_simp;go_at_call 176;refine (Truthy_any ⟨rt,rn⟩ V.drew).mono ?_;rintro e S ⟨⟨tb,rfl⟩,hS⟩;have BS:=h_ (Below V V S) ((Below.drew (b_)).trans hS);clear hS v0 v1 v2 v3 v4 r0 r1 fb);all_goals
   have H3:=q_ (H0.o.call BS.o);have P3:=q_ (P0.o.below BS.o);have I3:=q_ (I0.o.up (Up.of_below BS.o));have y4:=I3.o.cell (j:=4) rfl;obtain ⟨Ah,Ag,_⟩:=H3.o.fr.num (i:=0) rfl (j:=39) rfl rfl;have fb:=H3.o.fr.fz (i:=0) rfl;have hl:(C b).length=82:=H0.o.fr.len (i:=0) rfl;cases tb
   case true =>
    go_wp2;go_ret;exact ⟨⟨_,rfl⟩,P3.o.ms (H3.o.raise o_)⟩
   obtain ⟨h5,p5⟩:=H3.o.set (j:=39) (t:=.num) (v:=i_ xn) rfl rfl d_ (.num _) (fun _=>by
    rcases HX.o.jump (.inr rfl) with hj | hj
    ·intro kd p h1 h2 h3
     rw [gs_,if_pos rfl,if_pos o_] at h2
     injection h2 with h2
     injection h2 with _ h2
     exact .inr (.inl (by subst h2;exact hj))
    exact mv_mark (by rw [gs_,if_pos rfl,if_pos o_]) hj)
   go_wp2;go_ret;exact ⟨⟨_,rfl⟩,(P3.o.trans p5 (fun j hj=>o_)).ms (h5.raise o_)⟩
 by_cases h4:op=4
 ·subst h4;obtain ⟨kb,A0,A7⟩:∃ kb:Nat,kb<16/\xb=(kb:Int):=⟨xb.toNat,by have:=HX.o.b (show (4:Int)≠13 by decide) (show (4:Int)≠10 by decide);simp at this;omega,by have:=HX.o.b (show (4:Int)≠13 by decide) (show (4:Int)≠10 by decide);simp at this;omega⟩;obtain ⟨kc,Aa,Af⟩:∃ kc:Nat,kc<16/\xc=(kc:Int):=⟨xc.toNat,by have:=HX.o.c (show (4:Int)≠13 by decide);simp at this;omega,by have:=HX.o.c (show (4:Int)≠13 by decide);simp at this;omega⟩;subst A7 Af;have A5:(kb:Int)<16:=by omega
  have Ae:(kc:Int)<16:=by omega
  obtain ⟨st,s0,e0⟩:=H0.o.fr.tru (i:=0) rfl (j:=40+kb*2) (ap_ kb A0).2.2.1 (au_ _ o_);obtain ⟨sn,s1,e1⟩:=H0.o.fr.num (i:=0) rfl (j:=40+kb*2+1) (ap_ kb A0).2.2.2 (au_ _ o_);obtain ⟨ut,u0,e2⟩:=H0.o.fr.tru (i:=0) rfl (j:=40+kc*2) (ap_ kc Aa).2.2.1 (au_ _ o_);obtain ⟨un,u1,e3⟩:=H0.o.fr.num (i:=0) rfl (j:=40+kc*2+1) (ap_ kc Aa).2.2.2 (au_ _ o_);have A8:=h_ (Below V V V.drew) (Below.drew (b_));have A2:=h_ (Below V V (V.drew.alloc (.cells #[.bool false,i_ 0] 38))) ((Below.drew (b_)).alloc (l_) _);have HZ:=h_ (Bx (V.drew.alloc (.cells #[.bool false,i_ 0] 38)) V [.bool false,i_ 0]) (Bx.new V.drew [.bool false,i_ 0] 38);clear r0 r1;go_upto_region 12 with fail;go_cut [6,7] (fun p f wx=>∃ (q:Nat) (an af:Int),p=.pointer (some (a_ q))/\f=i_ af/\V<=q/\Hid (Bx wx q [.bool false,i_ an])/\Hid (Below V V wx))
  case first =>
   have KS:=h_ (∀ w':World,Below V V w'->(w'.cell? (f_ w 2)=some (i_ kb)/\w'.cell? (f_ w 3)=some (i_ kc)/\w'.cell? (f_ w 4)=some (i_ xn)/\w'.cell? ⟨b,40+kb*2,none⟩=some (.bool st)/\w'.cell? ⟨b,40+kb*2+1,none⟩=some (i_ sn)/\w'.cell? ⟨b,40+kc*2,none⟩=some (.bool ut)/\w'.cell? ⟨b,40+kc*2+1,none⟩=some (i_ un))) (fun w' hb=>⟨(I0.o.up (Up.of_below hb)).cell (j:=2) rfl,(I0.o.up (Up.of_below hb)).cell (j:=3) rfl,(I0.o.up (Up.of_below hb)).cell (j:=4) rfl,(H0.o.call hb).fr.cell (i:=0) rfl e0,(H0.o.call hb).fr.cell (i:=0) rfl e1,(H0.o.call hb).fr.cell (i:=0) rfl e2,(H0.o.call hb).fr.cell (i:=0) rfl e3⟩);clear e0 e1 e2 e3 v0 v1 v2 v3 v4 s0 s1 u0 u1;refine ar_ (S:=fun w':World=>w'.cell? (f_ w 2)=some (i_ kb)/\w'.cell? (f_ w 3)=some (i_ kc)/\w'.cell? (f_ w 4)=some (i_ xn)/\w'.cell? ⟨b,40+kb*2,none⟩=some (.bool st)/\w'.cell? ⟨b,40+kb*2+1,none⟩=some (i_ sn)/\w'.cell? ⟨b,40+kc*2,none⟩=some (.bool ut)/\w'.cell? ⟨b,40+kc*2+1,none⟩=some (i_ un)) rfl (KS.o _ A8.o) (fun _=>?_);go_simp;refine aa_ 0 51 ?_;refine aa_ 1 52 ?_;refine aa_ 2 53 ?_;refine aa_ 3 54 ?_;refine aa_ 4 55 ?_;refine aa_ 5 56 ?_;refine aa_ 6 57 ?_;refine aa_ 7 58 ?_;refine aa_ 8 59 ?_;refine aa_ 9 60 ?_;refine aa_ 10 61 ?_;refine aa_ 11 62 ?_;refine aa_ 12 63 ?_;refine aa_ 13 64 ?_;refine wpAnyH_ready (rs:=[14,18]) k_ t_ (AllReadyH.cons rfl (fun K hK=>?_) (AllReadyH.cons rfl (fun K hK=>?_) AllReadyH.nil))
   ·go_simp;go_at_call 174;refine (Apply_any xn ⟨st,sn⟩ ⟨ut,un⟩ V.drew).mono ?_;rintro e S ⟨⟨an,af,rfl⟩,hS⟩;have BS:=h_ (Below V V S) (A8.o.trans hS);clear hS;refine hK.out _ _ (KS.o _ BS.o) (fun _=>?_);refine aa_ 15 50 ?_;refine aa_ 16 66 ?_;refine aa_ 17 67 ?_;refine ba_ 18 k_ rfl (fun K hK=>?_);go_simp;have Ab:=h_ (Below V V (S.alloc (.cells #[.bool false,i_ 0] 38))) (BS.o.alloc BS.o.size _);have z0:=(Bx.new S [.bool false,i_ 0] 38).2.1 0 _ rfl;have z1:=(Bx.new S [.bool false,i_ 0] 38).2.1 1 _ rfl;have zf:=(Bx.new S [.bool false,i_ 0] 38).2.2;refine hK.out _ _ (KS.o _ Ab.o) (fun _=>?_);refine bb_ 19 fun K hK=>?_
    go_simp;refine hK.out _ _ (KS.o _ (BS.o.alloc BS.o.size _)) (fun _=>?_);refine aa_ 20 7 ?_;refine wpAnyH_done k_ ?_ _;go_wp2_with fail;go_meet;exact ⟨_,an,af,rfl,rfl,BS.o.size,q_ (Bx.new S [.bool false,i_ an] _),q_ (BS.o.alloc BS.o.size _)⟩
   go_simp;refine hK.out _ _ (KS.o _ A2.o) (fun _=>?_);refine bb_ 14 fun K hK=>?_
   go_simp;go_at_call 174;refine (Apply_any xn ⟨st,sn⟩ ⟨ut,un⟩ (V.drew.alloc (.cells #[.bool false,i_ 0] 38))).mono ?_;rintro e S ⟨⟨an,af,rfl⟩,hS⟩;have BS:=h_ (Below V V S) (A2.o.trans (hS.mono A2.o.size));have BZ:=q_ (HZ.o.below hS);have z0:=BZ.o.2.1 0 _ rfl;have z1:=BZ.o.2.1 1 _ rfl;have zf:=BZ.o.2.2;clear hS;refine hK.out _ _ (KS.o _ BS.o) (fun _=>?_);refine aa_ 15 50 ?_;refine aa_ 16 66 ?_;refine aa_ 17 67 ?_;refine ba_ 19 k_ rfl (fun K hK=>?_);go_simp;refine hK.out _ _ (KS.o _ ((BS.o.setCell (l_) _).setCell (l_) _)) (fun _=>?_);refine aa_ 20 7 ?_;refine wpAnyH_done k_ ?_ _;go_wp2_with fail;go_meet;exact ⟨V,an,af,rfl,rfl,l_,q_ ((BZ.o.set 0 _).set 1 _),q_ ((BS.o.setCell (l_) _).setCell (l_) _)⟩
  clear e0 e1 e2 e3;obtain ⟨q,an,af,rfl,rfl,hq,hB,A4⟩:=hcut;have H3:=q_ (H0.o.call A4.o);have P3:=q_ (P0.o.below A4.o);have I3:=q_ (I0.o.up (Up.of_below A4.o));have y1:=I3.o.cell (j:=1) rfl;have b0:=hB.o.2.1 0 _ rfl;have b1:=hB.o.2.1 1 _ rfl;obtain ⟨rt,r0,_⟩:=H3.o.fr.tru (i:=0) rfl (j:=40+k*2) (ap_ k hk).2.2.1 (au_ _ o_);obtain ⟨rn,r1,_⟩:=H3.o.fr.num (i:=0) rfl (j:=40+k*2+1) (ap_ k hk).2.2.2 (au_ _ o_);have fb:=H3.o.fr.fz (i:=0) rfl;clear v0 v1 v2 v3 v4 s0 s1 u0 u1;by_cases hf:af=0
  ·subst hf;go_upto_region 16 with fail;go_region_law fail;all_goals
    obtain ⟨Y1,C1,h5,p5⟩:=(H3.o.call (Below.drew (b_))).setReg hk ⟨false,an⟩;go_wp2;go_ret;exact ⟨⟨_,rfl⟩,((P3.o.below (Below.drew (b_))).trans p5 (fun j hj=>.inl o_)).ms (h5.raise o_)⟩
  go_wp2_with (go_at_call 175;refine (fault_m wc H3.o hK o_ af).mono ?_;rintro e W5 ⟨rfl,h5⟩;have H5:=q_ h5;clear h5);go_ret;obtain ⟨Y5,C5,h5,p5⟩:=H5.o;exact ⟨⟨_,rfl⟩,(P3.o.trans p5 (fun j hj=>.inl hj)).ms (h5.raise o_)⟩
 by_cases h19:op=19
 ·subst h19;cases rt
  case true =>
   go_upto_region 28 with fail;go_region_law fail;all_goals
    go_wp2_with (go_at_call 175;refine (fault_m V.drew (H0.o.call (Below.drew (b_))) hK o_ (-2)).mono ?_;rintro e W5 ⟨rfl,h5⟩;have H5:=q_ h5;clear h5);go_ret;obtain ⟨Y5,C5,h5,p5⟩:=H5.o;exact ⟨⟨_,rfl⟩,((P0.o.below (Below.drew (b_))).trans p5 (fun j hj=>.inl hj)).ms (h5.raise o_)⟩
  go_upto_region 28 with fail;obtain ⟨aA,an,ac,Al,_,_⟩:=H0.o.fr.slc (i:=0) rfl (j:=76) (e:=actT) rfl rfl;go_region_law fail;all_goals
   go_upto_region 31 with fail;go_region_law fail;all_goals
    have hA:=H0.o.call ((Below.refl V V).alloc (l_) (.cells #[.bool false,i_ rn,i_ 0] 152));have A9:=SlT.lit1 (w:=V) (X:=Y) (K:=L+20) (e:=actT) (vs:=[.bool false,i_ rn,i_ 0]) (VTs.cons (.tru _) (VTs.cons (.num _) (VTs.cons (.num _) VTs.nil))) 152 (fun h=>Nat.lt_irrefl _ (H0.o.fr.lt _ h)) o_;obtain ⟨h6,p6⟩:=(hA.raise (L':=L+20) o_).set (j:=76) (t:=.sl actT) rfl rfl d_ A9.vt (fun hm=>cf_ hm (by rw [gs_,if_neg d_]) (by rw [gs_,if_neg d_]) (by rw [gs_,if_neg d_]));have P6:=(P0.o.below ((Below.refl V V).alloc (l_) (.cells #[.bool false,i_ rn,i_ 0] 152))).trans p6 (fun j hj=>o_);rw [World.setCell_alloc_past _ _ _ _ Ad] at h6 P6;have HD:=h_ (∀ B,Below B ((V.setCell (f_ b 76) (.slice (some (a_ V)) 1 1)).alloc (.cells #[.bool false,i_ rn,i_ 0] 152)) (((V.setCell (f_ b 76) (.slice (some (a_ V)) 1 1)).alloc (.cells #[.bool false,i_ rn,i_ 0] 152)).drew.drew)) (fun B=>Below.drew (Below.drew (b_)));have HM:=q_ ((P6.below (HD.o _)).ms (h6.call (HD.o _)));clear hA A9 h6 p6 P6;go_wp2;go_ret;exact ⟨⟨_,rfl⟩,HM.o⟩
 go_wp2;go_ret;exact ⟨⟨_,rfl⟩,P0.o.ms (H0.o.raise o_)⟩
theorem Written_t (X:NP) (K:Nat) (A:OA) (n c:Nat) (L:Nat) (B:OA) (m d:Nat) (w:World) (h:SlT w X K objT A n c) (hK:K<=4398046510976) (hl:SlT w X L as_ B m d) (hL:L<=4398046510976) (hX:∀ k,X k->k<w) :
  Calls prog 135 #[.agg #[.slice A n c],.slice B m d] w fun e w'=>RH X K e w'/\Below w w w':=by
 obtain ⟨W,hW,A2,Aj,B0,B1⟩:=co_ w [.slice A n c] 35 [.slice none 0 0] 35;have H:=q_ (h.kept (Y:=fun k=>X k∨k=w∨k=w+1) (Kp.of_below A2) (fun k hk h1 h2=>by rcases h2 with h2 | h2 | h2;exact h1 h2;omega;omega) (Nat.le_refl K));have HL:=q_ (hl.kept (Y:=fun k=>X k∨k=w∨k=w+1) (Kp.of_below A2) (fun k hk h1 h2=>by rcases h2 with h2 | h2 | h2;exact h1 h2;omega;omega) (Nat.le_refl L));have HW:=q_ A2;have Aa:=q_ B0;have Ab:=q_ B1;have hm:m<=4398046510976:=Nat.le_trans hl.le hL;have Ag:=h_ (∀ k,(X k∨k=w∨k=w+1)->k<W) (fun k hk=>by rcases hk with hk | hk | hk;have:=hX k hk;omega;omega;omega);have Ak:=q_ hX;have Al:(w:Nat)<W:=by omega
 have Am:(w:Nat)+1<W:=by omega
 clear h hl hX B0 B1 A2 Aj;go_enter func135,ntmps135;go_upto_region 1 with fail;rw [←hW];clear hW;go_upto_region 2 with fail;go_loopw [11] (fun i wr=>∃ (k:Nat) (C:OA) (q d:Nat),k<=m/\i=i_ k/\Hid (SlT wr (fun k=>X k∨k=w∨k=w+1) K objT C q d)/\Hid (Bx wr w [.slice C q d])/\Hid (Bx wr (w+1) [.slice none 0 0])/\Hid (Kp (fun k=>k=w) W wr)) (fun i _=>m - (intOf i).toNat)
 case atStart=>exact ⟨0,A,n,c,o_,rfl,H,Aa,Ab,q_ (Kp.refl _ _)⟩
 obtain ⟨k,C,q,d2,hk,rfl,hC,A3,A4,A5⟩:=hrel;have Ap:=A5.o.size;have c0:=A3.o.2.1 0 _ rfl;have f0:=A3.o.2.2;have e0:=A4.o.2.1 0 _ rfl;have g0:=A4.o.2.2;by_cases hlt:k<m
 ·have A6:(k:Int)<(m:Int):=by omega
  obtain ⟨g,o,rfl,hg,x,hx⟩:=(HL.o.up (A5.o.mono (fun k _ h=>.inr (.inl h))) (Nat.le_refl L)).dp_ hlt;obtain ⟨c4,c5,c6,c7⟩:=hx wr (b_);obtain ⟨V,hV,A0,Ai,V0⟩:=af_ wr [i_ x.id,i_ x.field,.bool x.ref,i_ x.n] 87;have v0:=V0.2.1 0 _ rfl;have v1:=V0.2.1 1 _ rfl;have v2:=V0.2.1 2 _ rfl;have v3:=V0.2.1 3 _ rfl;have c8:=(A3.o.below A0).2.1 0 _ rfl;have Ae:=q_ (A3.o.below A0);have Af:=q_ (A4.o.below A0);have A7:=q_ (hC.o.up (Kp.of_below A0) (Nat.le_refl K));have Ad:=q_ (A5.o.trans (.of_below A0));have An:=A0.size;clear hx A0 Ai V0 c0 f0 e0 g0;go_upto_region 4 with fail;rw [←hV];clear hV c4 c5 c6 c7;go_wp2_with fail;refine (Write_t (fun k=>X k∨k=w∨k=w+1) K C q d2 x.id x.field ⟨x.ref,x.n⟩ V A7.o hK (fun k hk=>by have:=Ag.o k hk;omega)).mono ?_;rintro e Y ⟨⟨C2,q2,d3,b,rfl,Ah⟩,hY⟩;have A1:=q_ (Ae.o.below hY);have A9:=q_ (Af.o.below hY);have Ac:=q_ (A7.o.up (Kp.of_below hY) (Nat.le_refl K));have A8:=q_ (Ad.o.trans (.of_below hY));have y0:=A1.o.2.1 0 _ rfl;have y1:=A1.o.2.2;have Ao:(w:Nat)<Y:=A1.o.1;have hne:¬(w:Nat)+1=w:=by omega
  clear hY c8 v0 v1 v2 v3;go_wp2;all_goals first
   | (go_roundw
      case rel=>exact ⟨k+1,C2,q2,d3,o_,by go_num,q_ (Ah.o.up (((Kp.refl _ Y).setCell (.inl (.inr (.inl rfl))) _).alloc _) (Nat.le_refl K)),q_ ((A1.o.set 0 _).alloc _),q_ ((A9.o.far (by show (w:Nat)≠w+1;omega) _).alloc _),q_ ((A8.o.setCell (.inl rfl) _).alloc _)⟩
      case measure=>simp [intOf];omega)
   | (go_roundw
      case rel=>exact ⟨k+1,C,q,d2,o_,by go_num,q_ (Ac.o.up ((Kp.refl _ Y).alloc _) (Nat.le_refl K)),q_ (A1.o.alloc _),q_ (A9.o.alloc _),q_ (A8.o.alloc _)⟩
      case measure=>simp [intOf];omega)
 have A6:¬(k:Int)<(m:Int):=by omega
 go_wp2;refine retC results135 (by rfl) underlying35 rfl k_ (cs:=[_]) (A4.o.set 0 _).whole rfl ?_;have hb:Below w w (wr.setCell (a_ (w+1)) (.slice C q d2)):=(HW.o.trans (A5.o.below (B:=w) o_ (fun k hk h=>o_))).setCell (by show (w:Nat)<=w+1;omega) _;exact ⟨⟨_,_,_,rfl,q_ ((hC.o.up ((Kp.refl _ wr).setCell (.inl (.inr (.inr rfl))) _) (Nat.le_refl K)).kept (Kp.refl _ _) (fun k _ h h2=>h (.inl h2)) (Nat.le_refl K))⟩,hb⟩
end Go.Proofs.YtfolidlmgfhkiaaGreat
