/- Lemmas on functions of the program, under the conditions that each states. -/
import Derived.Test.YtfolidlmgfhkiaaGreatV20
set_option linter.unusedVariables false
set_option linter.unusedSimpArgs false
set_option maxRecDepth 100000
set_option maxHeartbeats 4000000
namespace Go.Proofs.YtfolidlmgfhkiaaGreat
open Go.RowKit Go.Proofs.Tryz
attribute [local go_sem ↓] exec33
theorem an_ (k:Nat) (h:k<16):oneT[4+k*2]?=some .tru/\oneT[4+k*2+1]?=some .num/\oneT[40+k*2]?=some .tru/\oneT[40+k*2+1]?=some .num:=by
 match k,h with
 | 0,_ | 1,_ | 2,_ | 3,_ | 4,_ | 5,_ | 6,_ | 7,_ | 8,_ | 9,_ | 10,_ | 11,_ | 12,_ | 13,_ | 14,_ | 15,_=>exact ⟨rfl,rfl,rfl,rfl⟩
 | n+16,h=>omega
theorem as_ (j:Nat) (h:j<72):de_ j=none:=by unfold de_;rw [if_neg o_]
theorem vars_m {X Z Y:NP} {w0:World} {LL:List LV} {b K L:Nat} {l:List In} {pc:Int} {C:Nat->VL} (w:World) (h:OneS X Z w0 LL b K L l pc Y C w) (hK:K<=1000000000) (hL:L<=9000) (x:In) (ha:0<=x.a/\x.a<16) :
  Calls prog 126 #[.pointer (some (a_ b)),.agg #[i_ x.op,i_ x.a,i_ x.b,i_ x.c,i_ x.n]] w fun e w'=>RB e/\Ms X Z w0 LL b K (L+20) l pc Y C w w' (fun j=>j<38):=by
 obtain ⟨V,hV,Ac,Ar,W0⟩:=af_ w [i_ x.op,i_ x.a,i_ x.b,i_ x.c,i_ x.n] 202;have H0:=q_ (h.call Ac);have I0:=h_ (Lc V Y w [i_ x.op,i_ x.a,i_ x.b,i_ x.c,i_ x.n]) (⟨W0,fun hy=>Nat.lt_irrefl _ (h.fr.lt _ hy)⟩);have P0:=q_ ((Pr.refl b (fun j=>j<38) w Y C).below Ac);have AF:=h.fr.blt (i:=0) rfl;obtain ⟨op,xa,xb,xc,xn⟩:=x;obtain ⟨k,hk,rfl⟩:∃ k:Nat,k<16/\xa=(k:Int):=⟨xa.toNat,by have:=ha;simp at this;omega,by have:=ha;simp at this;omega⟩;have v0:=W0.2.1 0 _ rfl;have v1:=W0.2.1 1 _ rfl;have v4:=W0.2.1 4 _ rfl;have AH:(w:Nat)<V:=by omega
 have AE:b<V:=by omega
 clear h Ac Ar W0 ha;go_enter func126,ntmps126;go_upto_region 1 with fail;rw [<-hV];clear hV;have AG:(k:Int)<16:=by omega
 by_cases hop:op=8\/op=9\/op=10\/op=20
 ·obtain ⟨rt,r0,_⟩:=H0.o.fr.tru (i:=0) rfl (j:=4+k*2) (an_ k hk).1 (as_ _ o_);obtain ⟨rn,r1,_⟩:=H0.o.fr.num (i:=0) rfl (j:=4+k*2+1) (an_ k hk).2.1 (as_ _ o_);rcases hop with rfl | rfl | rfl | rfl
  ·go_upto_region 3 with fail;go_cut [5] (fun p wx=>∃ q:Nat,p=.pointer (some (a_ q))/\V<=q/\Hid (Bx wx q [.bool rt,i_ rn])/\Hid (Below V V wx))
   case first =>
    exact cuF
   obtain ⟨q,rfl,hq,hB,A1⟩:=hcut;have H1:=q_ (H0.o.call A1.o);have I1:=q_ (I0.o.up (Up.of_below A1.o));have P1:=q_ (P0.o.below A1.o);have Q1:=h_ (Lc wc Y q [.bool rt,i_ rn]) (⟨hB.o,fun hy=>by have:=H0.o.fr.lt _ hy;omega⟩);have y0:=I1.o.cell (j:=0) rfl;have y1:=I1.o.cell (j:=1) rfl;have y4:=I1.o.cell (j:=4) rfl;clear v0 v1 v4 r0 r1 hB;go_wp2_with fail;refine (variable_m wc H1.o hK o_ xn).mono ?_;rintro e W2 ⟨⟨f,kk,ok,rfl⟩,Y2,C2,h2,p2⟩;have H2:=q_ h2;have I2:=q_ (I1.o.up p2.1);have P2:=q_ (P1.o.trans p2 (fun j hj=>.inl hj));clear y0 y1 y4 h2 p2;cases ok
   case false =>
    exact uj_
   have y0:=I2.o.cell (j:=0) rfl;have y1:=I2.o.cell (j:=1) rfl;go_wp2_with fail;refine (ds_ W2 H2.o hK o_ f kk).mono ?_;rintro e W3 ⟨⟨v,rfl⟩,Y3,C3,h3,p3⟩;obtain ⟨U,hU,A0,A7,U3⟩:=af_ W3 [.bool v.ref,i_ v.n] 38;have H3:=q_ (h3.call A0);have I3:=q_ ((I2.o.up p3.1).up (Up.of_below A0));have P3:=q_ ((P2.o.trans p3 (fun j hj=>⟨o_,o_⟩)).below A0);have u0:=U3.2.1 0 _ rfl;have u1:=U3.2.1 1 _ rfl;have z0:=I3.o.cell (j:=0) rfl;have z1:=I3.o.cell (j:=1) rfl;obtain ⟨AJ,r0,_⟩:=H3.o.fr.tru (i:=0) rfl (j:=40+k*2) (an_ k hk).2.2.1 (as_ _ o_);obtain ⟨AI,r1,_⟩:=H3.o.fr.num (i:=0) rfl (j:=40+k*2+1) (an_ k hk).2.2.2 (as_ _ o_);have fb:=H3.o.fr.fz (i:=0) rfl;clear h3 p3 A0 A7 U3 y0 y1;go_upto_region 11 with fail;rw [<-hU];clear hU;go_upto_region 13 with fail;go_region_law fail;all_goals
    obtain ⟨h5,p5⟩:=(H3.o.call (Below.drew (b_))).set (j:=40+k*2) (t:=.tru) (v:=.bool v.ref) (an_ k hk).2.2.1 (as_ _ o_) o_ (.tru _) (fun hm=>ci_ hm zo_ zo_ zo_);obtain ⟨h6,p6⟩:=h5.set (j:=40+k*2+1) (t:=.num) (v:=i_ v.n) (an_ k hk).2.2.2 (as_ _ o_) o_ (.num _) (fun hm=>ci_ hm zo_ zo_ zo_);go_wp2;go_ret;exact ⟨⟨_,rfl⟩,(((P3.o.below (Below.drew (b_))).trans p5 (fun j hj=>o_)).trans p6 (fun j hj=>o_)).ms (h6.raise o_)⟩
  ·go_upto_region 3 with fail;go_cut [5] (fun p wx=>∃ q:Nat,p=.pointer (some (a_ q))/\V<=q/\Hid (Bx wx q [.bool rt,i_ rn])/\Hid (Below V V wx))
   case first =>
    exact cuF
   obtain ⟨q,rfl,hq,hB,A1⟩:=hcut;have H1:=q_ (H0.o.call A1.o);have I1:=q_ (I0.o.up (Up.of_below A1.o));have P1:=q_ (P0.o.below A1.o);have Q1:=h_ (Lc wc Y q [.bool rt,i_ rn]) (⟨hB.o,fun hy=>by have:=H0.o.fr.lt _ hy;omega⟩);have y0:=I1.o.cell (j:=0) rfl;have y1:=I1.o.cell (j:=1) rfl;have y4:=I1.o.cell (j:=4) rfl;clear v0 v1 v4 r0 r1 hB;go_wp2_with fail;refine (variable_m wc H1.o hK o_ xn).mono ?_;rintro e W2 ⟨⟨f,kk,ok,rfl⟩,Y2,C2,h2,p2⟩;have H2:=q_ h2;have I2:=q_ (I1.o.up p2.1);have P2:=q_ (P1.o.trans p2 (fun j hj=>.inl hj));have UQ:=q_ p2.1;clear y0 y1 y4 h2 p2;cases ok
   case false =>
    exact uj_
   have y0:=I2.o.cell (j:=0) rfl;have y1:=I2.o.cell (j:=1) rfl;have q0:=(Q1.o.up UQ.o).cell (j:=0) rfl;have q1:=(Q1.o.up UQ.o).cell (j:=1) rfl;go_wp2_with fail;refine (ea_ W2 H2.o o_ f kk ⟨rt,rn⟩).mono ?_;rintro e W3 ⟨rfl,Y3,C3,h3,p3⟩;have H3:=q_ h3;have P3:=q_ (P2.o.trans p3 (fun j hj=>o_));clear h3 p3;go_wp2;go_ret;exact ⟨⟨_,rfl⟩,P3.o.ms (H3.o.raise o_)⟩
  ·go_upto_region 3 with fail;go_cut [5] (fun p wx=>∃ q:Nat,p=.pointer (some (a_ q))/\V<=q/\Hid (Bx wx q [.bool rt,i_ rn])/\Hid (Below V V wx))
   case first =>
    exact cuF
   obtain ⟨q,rfl,hq,hB,A1⟩:=hcut;have H1:=q_ (H0.o.call A1.o);have I1:=q_ (I0.o.up (Up.of_below A1.o));have P1:=q_ (P0.o.below A1.o);have Q1:=h_ (Lc wc Y q [.bool rt,i_ rn]) (⟨hB.o,fun hy=>by have:=H0.o.fr.lt _ hy;omega⟩);have y0:=I1.o.cell (j:=0) rfl;have y1:=I1.o.cell (j:=1) rfl;have y4:=I1.o.cell (j:=4) rfl;clear v0 v1 v4 r0 r1 hB;go_wp2_with fail;refine (variable_m wc H1.o hK o_ xn).mono ?_;rintro e W2 ⟨⟨f,kk,ok,rfl⟩,Y2,C2,h2,p2⟩;have H2:=q_ h2;have I2:=q_ (I1.o.up p2.1);have P2:=q_ (P1.o.trans p2 (fun j hj=>.inl hj));have UQ:=q_ p2.1;clear y0 y1 y4 h2 p2;cases ok
   case false =>
    exact uj_
   have y0:=I2.o.cell (j:=0) rfl;have y1:=I2.o.cell (j:=1) rfl;have y0:=I2.o.cell (j:=0) rfl;have y2:=I2.o.cell (j:=2) rfl;go_wp2_with fail;refine (ds_ W2 H2.o hK o_ f kk).mono ?_;rintro e W3 ⟨⟨v,rfl⟩,Y3,C3,h3,p3⟩;obtain ⟨U,hU,A0,A7,U3⟩:=af_ W3 [.bool v.ref,i_ v.n] 38;have H3:=q_ (h3.call A0);have I3:=q_ ((I2.o.up p3.1).up (Up.of_below A0));have Q3:=q_ (((Q1.o.up UQ.o).up p3.1).up (Up.of_below A0));have P3:=q_ ((P2.o.trans p3 (fun j hj=>⟨o_,o_⟩)).below A0);have u0:=U3.2.1 0 _ rfl;have u1:=U3.2.1 1 _ rfl;have z0:=I3.o.cell (j:=0) rfl;have z2:=I3.o.cell (j:=2) rfl;have q0:=Q3.o.cell (j:=0) rfl;have q1:=Q3.o.cell (j:=1) rfl;clear h3 p3 A0 A7 U3 y0 y2;go_upto_region 11 with fail;rw [<-hU];clear hU;go_wp2_with fail;refine (Apply_any xb v ⟨rt,rn⟩ U).mono ?_;rintro e S ⟨⟨nn,ff,rfl⟩,hS⟩;obtain ⟨T,hT,An,Aq,T3⟩:=af_ S [.bool false,i_ nn] 38;have HB:=q_ (hS.trans (An.mono hS.size));have H4:=q_ (H3.o.call HB.o);have I4:=q_ (I3.o.up (Up.of_below HB.o));have Q4:=q_ (Q3.o.up (Up.of_below HB.o));have P4:=q_ (P3.o.below HB.o);have HT:=h_ (Lc T Y3 S [.bool false,i_ nn]) (⟨T3,fun hy=>by have:=H3.o.fr.lt _ hy;have:=hS.size;omega⟩);have t0:=T3.2.1 0 _ rfl;have t1:=T3.2.1 1 _ rfl;clear hS An Aq T3 u0 u1 z0 z2 q0 q1;go_upto_region 16 with fail;rw [<-hT];clear hT;by_cases hf:ff=0
   ·subst hf;go_wp2_with fail;refine (ea_ T H4.o o_ f kk ⟨false,nn⟩).mono ?_;rintro e W5 ⟨rfl,Y5,C5,h5,p5⟩;have H5:=q_ h5;have I5:=q_ (I4.o.up p5.1);have Q5:=q_ (Q4.o.up p5.1);have P5:=q_ (P4.o.trans p5 (fun j hj=>o_));have z2:=I5.o.cell (j:=2) rfl;have q0:=Q5.o.cell (j:=0) rfl;have q1:=Q5.o.cell (j:=1) rfl;obtain ⟨dA,dn,dc,AL,_,_⟩:=h5.fr.slc (i:=0) rfl (j:=75) (e:=bj_) rfl rfl;have fb:=h5.fr.fz (i:=0) rfl;have As:b<W5:=h5.fr.blt (i:=0) rfl;clear h5 p5 t0 t1;have hA:=H5.o.call (((Below.refl W5 W5).alloc (l_) (.cells #[i_ f,i_ kk,i_ xb,.bool rt,i_ rn] 174)));have Am:=SlT.lit1 (w:=W5) (X:=Y5) (K:=L+20) (e:=bj_) (vs:=[i_ f,i_ kk,i_ xb,.bool rt,i_ rn]) (VTs.cons (.num _) (VTs.cons (.num _) (VTs.cons (.num _) (VTs.cons (.tru _) (VTs.cons (.num _) VTs.nil))))) 174 (fun h=>Nat.lt_irrefl _ (H5.o.fr.lt _ h)) o_;obtain ⟨h6,p6⟩:=(hA.raise (L':=L+20) o_).set (j:=75) (t:=.sl bj_) rfl rfl d_ Am.vt (fun hm=>ci_ hm ze_ ze_ ze_);have H6:=q_ h6;have P6:=q_ ((P5.o.below ((Below.refl W5 W5).alloc (l_) (.cells #[i_ f,i_ kk,i_ xb,.bool rt,i_ rn] 174))).trans p6 (fun j hj=>o_));clear hA Am h6 p6;go_wp2;go_ret;have hM:=P6.o.ms H6.o;rw [World.setCell_alloc_past _ _ _ _ As] at hM;exact ⟨⟨_,rfl⟩,hM⟩
   go_wp2_with (go_at_call 175;refine (fault_m T H4.o hK o_ ff).mono ?_;rintro e W5 ⟨rfl,h5⟩;have H5:=q_ h5;clear h5);go_ret;obtain ⟨Y5,C5,h5,p5⟩:=H5.o;exact ⟨⟨_,rfl⟩,(P4.o.trans p5 (fun j hj=>.inl hj)).ms (h5.raise o_)⟩
  go_upto_region 3 with fail;go_cut [5] (fun p wx=>∃ q:Nat,p=.pointer (some (a_ q))/\V<=q/\Hid (Bx wx q [.bool rt,i_ rn])/\Hid (Below V V wx))
  case first =>
   exact cuF
  obtain ⟨q,rfl,hq,hB,A1⟩:=hcut;have H1:=q_ (H0.o.call A1.o);have I1:=q_ (I0.o.up (Up.of_below A1.o));have P1:=q_ (P0.o.below A1.o);have Q1:=h_ (Lc wc Y q [.bool rt,i_ rn]) (⟨hB.o,fun hy=>by have:=H0.o.fr.lt _ hy;omega⟩);have y0:=I1.o.cell (j:=0) rfl;have y1:=I1.o.cell (j:=1) rfl;have y4:=I1.o.cell (j:=4) rfl;clear v0 v1 v4 r0 r1 hB;go_wp2_with fail;refine (variable_m wc H1.o hK o_ xn).mono ?_;rintro e W2 ⟨⟨f,kk,ok,rfl⟩,Y2,C2,h2,p2⟩;have H2:=q_ h2;have I2:=q_ (I1.o.up p2.1);have P2:=q_ (P1.o.trans p2 (fun j hj=>.inl hj));clear y0 y1 y4 h2 p2;cases ok
  case false =>
   exact uj_
  have y0:=I2.o.cell (j:=0) rfl;have y0:=I2.o.cell (j:=0) rfl;go_wp2_with fail;refine (ds_ W2 H2.o hK o_ f kk).mono ?_;rintro e W3 ⟨⟨⟨vr,vn⟩,rfl⟩,Y3,C3,h3,p3⟩;obtain ⟨U,hU,A0,A7,U3⟩:=af_ W3 [.bool vr,i_ vn] 38;have H3:=q_ (h3.call A0);have I3:=q_ ((I2.o.up p3.1).up (Up.of_below A0));have P3:=q_ ((P2.o.trans p3 (fun j hj=>⟨o_,o_⟩)).below A0);have VLx:=h_ (Lc U Y3 W3 [.bool vr,i_ vn]) (⟨U3,fun hy=>Nat.lt_irrefl _ (h3.fr.lt _ hy)⟩);have u0:=U3.2.1 0 _ rfl;have u1:=U3.2.1 1 _ rfl;have z0:=I3.o.cell (j:=0) rfl;clear h3 p3 A0 A7 U3 y0;go_upto_region 11 with fail;rw [<-hU];clear hU;cases vr
  case true =>
   go_wp2_with (go_at_call 175;refine (fault_m U H3.o hK o_ (-2)).mono ?_;rintro e W5 ⟨rfl,h5⟩;have H5:=q_ h5;clear h5);exact u4_
  go_upto_region 25 with fail;clear z0;obtain ⟨sv,Aa⟩:=ex_ (((C3 b).drop 3).take 33);have Ad:(C3 b).length=82:=H3.o.fr.len (i:=0) rfl;have JQ:=h_ (∀ j:Nat,j<38\/72<=j->True) (fun _ _=>trivial);have L0:=q_ VLx.o;have KS:=h_ (∀ (w':World) (C':Nat->VL) {Y':NP} {L':Nat},Fr X Z w0 (oneL b K L' :: LL) Y' C' w'->Lc w' Y' W3 [.bool false,i_ vn]->(∀ j,3<=j->j<36->(C' b)[j]?=(C3 b)[j]?)->(dd_ w' (.pointer (some (f_ b 3)))/\row33V w' (.pointer (some (f_ b 3)))=sv.toArray/\w'.cell? (a_ W3)=some (.bool false)/\w'.cell? (f_ W3 1)=some (i_ vn))) (fun w' C' Y' L' hf Ao he=>by
   obtain ⟨a1,a2⟩:=cpu_row (hf.box (i:=0) rfl) (hf.len (i:=0) rfl) he
   exact ⟨a1,by rw [Aa];exact a2,Ao.cell rfl,Ao.cell rfl⟩)
  have A2:VTs U Y3 0 cpuT sv:=vts_cpu0 (K:=K) ⟨by rw [Aa,List.length_take,List.length_drop,Ad];rfl,fun j t hj=>by
   have A8:j<33:=(e_ hj).1
   have Ae:oneT[3+j]?=some t:=by
    have:oneT=[.sl aw_,.num,.num] ++ (cpuT ++ ([.sl objT,.num] ++ effT ++ [.tru])):=rfl
    rw [this,List.getElem?_append_right t_,List.getElem?_append_left (by simpa [show ([.sl aw_,.num,.num]:List CT).length=3 from rfl] using (show j<cpuT.length from A8))]
    simpa using hj
   obtain ⟨u,q1,q2,q3⟩:=H3.o.fr.get (i:=0) rfl Ae (show de_ (3+j)=none by unfold de_;rw [if_neg o_])
   exact ⟨u,by rw [Aa,List.getElem?_take,if_pos A8,List.getElem?_drop];exact q1,by have:oneK K (L+6+1) (3+j)=K:=by { unfold oneK;rw [if_neg o_] };rw [this] at q3;exact q3⟩⟩
  have A3:=H3.o.call (Below.drew (Below.refl U U));have Af:=(Pr.refl b (fun j=>j<38) U Y3 C3).below (Below.drew (Below.refl U U));obtain ⟨Av,AK,_⟩:=A3.fr.num (i:=0) rfl (j:=38) rfl rfl;obtain ⟨Ai,Aw,_⟩:=A3.fr.tru (i:=0) rfl (j:=78) rfl rfl;obtain ⟨Aj,Ax,_⟩:=A3.fr.tru (i:=0) rfl (j:=79) rfl rfl;obtain ⟨Ak,Ay,_⟩:=A3.fr.num (i:=0) rfl (j:=80) rfl rfl;have AA:=A3.fr.fz (i:=0) rfl;have AM:U.cell? (f_ b 78)=some (.bool Ai):=Aw;have AN:U.cell? (f_ b 79)=some (.bool Aj):=Ax;have AO:U.cell? (f_ b 80)=some (i_ Ak):=Ay;have AB:=H3.o.fr.fz (i:=0) rfl;obtain ⟨Ab,Ag⟩:=A3.set (j:=38) (t:=.num) (v:=i_ 3) rfl rfl d_ (.num _) (fun _=>mv_kind (kd:=3) zy_ d_);obtain ⟨A6,A4⟩:=Ab.set (j:=79) (t:=.tru) (v:=.bool false) rfl rfl d_ (.tru _) (fun hm=>ci_ hm ze_ ze_ ze_);obtain ⟨A5,Ah⟩:=A6.set (j:=80) (t:=.num) (v:=i_ vn) rfl rfl d_ (.num _) (fun hm=>ci_ hm ze_ ze_ ze_);have A9:=A2.go ((((Af.1).trans Ag.1).trans A4.1).trans Ah.1) (Nat.le_refl 0);have Au:=A5.mv;obtain ⟨Al,Ap⟩:=A5.setCpu (vs:=sv) A9 (fun _=>mv_kind (kd:=3) (by
   rw [upd_same,upd_same,upd_same]
   unfold splice
   rw [List.getElem?_append_left (by rw [List.length_take];simp [Ad]),List.getElem?_take,if_pos d_,gs_,if_neg d_,gs_,if_neg d_,gs_,if_pos rfl,if_pos o_]) d_)
  have HT:=q_ (A5.fr.there (i:=0) rfl (o:=39) (n:=sv.length) (by rw [A2.1];decide));have HI:=h_ ((prog.info? 62).map (·.size)=some sv.length) (by rw [A2.1];exact isz_62);have HO:=q_ A2;have hJ:∀ (k:Nat),(k=38\/(77<=k/\k<=80))->∀ j,j<38->j≠k:=fun k hk j hj=>by omega
  have p0:=h_ (Pr b (fun j=>j<38) U Y3 C3 _ _ _) Af;have p1:=q_ (p0.o.trans Ag (hJ 38 o_));have p2:=q_ (p1.o.trans A4 (hJ 79 o_));have p3:=q_ (p2.o.trans Ah (hJ 80 o_));have p4:=p3;have p5:=q_ (p4.o.trans Ap (fun j hj=>.inl o_));have g0:=q_ A3;have g1:=q_ Ab;have g3:=q_ A5;have g4:=q_ A5;have g5:=q_ Al;have Az:=H3;clear A3 Ab A6 A5 Al Af Ag A4 Ah Ap A2 A9 Au Aa Ad u0 u1 hJ
  -- region 25
  refine aq_ (S:=fun w':World=>dd_ w' (.pointer (some (f_ b 3)))/\row33V w' (.pointer (some (f_ b 3)))=sv.toArray/\w'.cell? (a_ W3)=some (.bool false)/\w'.cell? (f_ W3 1)=some (i_ vn)) rfl (KS.o _ _ g0.o.fr (Lc.up L0.o p0.o.1) (fun j h1 h2=>p0.o.2.2 j yr_)) (fun _=>?_);go_simp;refine aa_ 0 110 ?_;refine aa_ 1 111 ?_;refine aa_ 2 112 ?_;refine aa_ 3 113 ?_;refine aa_ 4 114 ?_;refine aa_ 5 115 ?_;refine aa_ 6 116 ?_;refine aa_ 7 117 ?_;refine aa_ 8 118 ?_;refine aa_ 9 119 ?_;refine aa_ 10 120 ?_;refine ba_ 11 k_ rfl (fun K hK=>?_);go_simp;refine hK.out _ _ (KS.o _ _ g1.o.fr (Lc.up L0.o p1.o.1) (fun j h1 h2=>p1.o.2.2 j yr_)) (fun _=>?_);refine aa_ 12 121 ?_;refine aa_ 13 122 ?_;refine aa_ 14 123 ?_;refine ba_ 15 k_ rfl (fun K hK=>?_);go_simp;refine hK.out _ _ (KS.o _ _ g3.o.fr (Lc.up L0.o p3.o.1) (fun j h1 h2=>p3.o.2.2 j yr_)) (fun _=>?_);refine aa_ 16 124 ?_;refine aa_ 17 125 ?_;refine aa_ 18 126 ?_;refine ba_ 19 k_ rfl (fun K hK=>?_);rw [if_pos za_];refine wp_store_mid 62 (.tmp 126) (.tmp 117) rfl b 39 sv.toArray v_ v_ x7_ x8_ (by simpa using HO.o.one) ?_;refine hK.out _ _ (KS.o _ _ g5.o.fr (Lc.up L0.o p5.o.1) (fun j h1 h2=>p5.o.2.2 j yr_)) (fun _=>?_);try simp only [Act.put,sA,s0,s1]
  refine wpAnyH_done k_ ?_ _;go_wp2;go_ret;exact ⟨⟨_,rfl⟩,(P3.o.trans p5.o (fun j hj=>hj)).ms (g5.o.raise o_)⟩
  -- end 25
 have h8:op≠8:=fun e=>hop (.inl e)
 have h9:op≠9:=fun e=>hop (.inr (.inl e))
 have AC:op≠10:=fun e=>hop (.inr (.inr (.inl e)))
 have AD:op≠20:=fun e=>hop (.inr (.inr (.inr e)))
 go_wp2;all_goals first
  | (go_ret;exact ⟨⟨_,rfl⟩,P0.o.ms (H0.o.raise o_)⟩)
  | (exfalso;omega)
  | (exfalso;simp_all)
end Go.Proofs.YtfolidlmgfhkiaaGreat
