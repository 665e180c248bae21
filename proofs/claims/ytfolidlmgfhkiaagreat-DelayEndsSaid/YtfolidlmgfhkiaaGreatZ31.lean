/- Lemmas: each says what a function of the program leaves, under the conditions that it states. -/
import Derived.Test.YtfolidlmgfhkiaaGreatZ30
set_option linter.unusedVariables false
set_option linter.unusedSimpArgs false
set_option maxRecDepth 100000
set_option maxHeartbeats 4000000
namespace Go.Proofs.YtfolidlmgfhkiaaGreat
open Go.RowKit Go.Proofs.Tryz
attribute [local go_sem ↓] exec33
def cpuV (p:Int):VL:=i_ p :: regsT.map CT.zero
theorem cpuV_eq (p:Int):cpuV p=[i_ p,.bool false,i_ 0,.bool false,i_ 0,.bool false,i_ 0,.bool false,i_ 0,.bool false,i_ 0,.bool false,i_ 0,.bool false,i_ 0,.bool false,i_ 0,.bool false,i_ 0,.bool false,i_ 0,.bool false,i_ 0,.bool false,i_ 0,.bool false,i_ 0,.bool false,i_ 0,.bool false,i_ 0,.bool false,i_ 0]:=rfl
theorem vts_cpuV {X:NP} {w:World} {K:Nat} (p:Int):VTs w X K cpuT (cpuV p):=VTs.cons (.num _) (az_ K regsT)
theorem isz_cpuV (p:Int):(prog.info? 62).map (·.size)=some (cpuV p).length:=isz_62
def JT:NP:=fun j=>j<38∨(74<=j/\j<=76)
theorem throw_m {X Z Y:NP} {w0:World} {LL:List LV} {b K L:Nat} {l:List In} {pc:Int} {C:Nat->VL} (w:World) (h:OneS X Z w0 LL b K L l pc Y C w) (hK:K<=1000000000) (hL:L<=10000) (v:Val) :
  Calls prog 123 #[.pointer (some (a_ b)),.agg #[.bool v.ref,i_ v.n]] w fun e w'=>e=.returned (.tuple #[])/\Ms X Z w0 LL b K (L+5) l pc Y C w w' JT:=by
 obtain ⟨W,hW,Ag,AH,W0⟩:=af_ w [.bool v.ref,i_ v.n] 38;have H0:=q_ (h.call Ag);have V0:=h_ (Lc W Y w [.bool v.ref,i_ v.n]) (⟨W0,fun hy=>Nat.lt_irrefl _ (h.fr.lt _ hy)⟩);have P0:=q_ ((Pr.refl b JT w Y C).below Ag);have AW:=h.fr.blt (i:=0) rfl;clear h Ag AH W0;go_enter func123,ntmps123;go_upto_region 1 with fail;rw [←hW];clear hW;go_wp2_with fail;refine (frame_m W H0.o hK o_).mono ?_;rintro e W1 ⟨⟨f,fn,rfl⟩,Y1,C1,h1,p1⟩;have H1:=q_ h1;have V1:=q_ (V0.o.up p1.1);have P1:=q_ (P0.o.trans p1 (fun j hj=>by rcases hj with hj | hj <;> (constructor <;> omega)));obtain ⟨bk,AQ,_⟩:=h1.fr.tru (i:=0) rfl (j:=81) rfl rfl;clear h1 p1;cases bk
 case true =>
  go_wp2;refine ret0 (by rfl) rfl ?_;exact ⟨rfl,P1.o.ms (H1.o.raise o_)⟩
 go_wp2_with fail;refine (dy_ W1 H1.o hK o_ f 2).mono ?_;rintro e W2 ⟨⟨⟨hr,hn⟩,rfl⟩,Y2,C2,h2,p2⟩;obtain ⟨V,hV,A8,AG,V3⟩:=af_ W2 [.bool hr,i_ hn] 38;have H2:=q_ (h2.call A8);have V2:=q_ ((V1.o.up p2.1).up (Up.of_below A8));have P2:=q_ ((P1.o.trans p2 (fun j hj=>by rcases hj with hj | hj <;> (constructor <;> omega))).below A8);have HN:=h_ (Lc V Y2 W2 [.bool hr,i_ hn]) (⟨V3,fun hy=>Nat.lt_irrefl _ (h2.fr.lt _ hy)⟩);obtain ⟨bk,AB,A3⟩:=H2.o.fr.tru (i:=0) rfl (j:=81) rfl rfl;have Ab:=q_ A3;have fb:=H2.o.fr.fz (i:=0) rfl;have n0:=HN.o.cell (j:=0) rfl;have n1:=HN.o.cell (j:=1) rfl;have AV:b<V:=H2.o.fr.blt (i:=0) rfl;have AX:W2≠b:=by have:=h2.fr.blt (i:=0) rfl;omega
 clear h2 p2 A8 AG V3 AQ A3;go_upto_region 4 with fail;rw [←hV];clear hV;cases hr
 case true =>
  go_wp2_with fail;go_quiet (fail);go_wp2;refine ret0 (by rfl) rfl ?_;obtain ⟨Y3,C3,h3,u3,q3,j3⟩:=(H2.o.call (below_drewN (b_) nq)).set81 (bk:=bk) Ab.o true (fun _=>rfl);exact ⟨rfl,(((P2.o.below (below_drewN (b_) nq)).trans ⟨u3,q3,j3⟩ (fun j hj=>by rcases hj with hj | hj <;> omega)).ms (h3.raise o_))⟩
 by_cases hz:hn=0
 ·subst hz;go_wp2_with fail;go_quiet (fail);go_wp2_with fail;refine (dy_ (V.drewN nq) (H2.o.call (below_drewN (b_) nq)) hK o_ f 0).mono ?_;rintro e W3 ⟨⟨⟨pr,pn⟩,rfl⟩,Y3,C3,h3,p3⟩;obtain ⟨U,hU,A7,AF,U3⟩:=af_ W3 [.bool pr,i_ pn] 38;have H3:=q_ (h3.call A7);have V3:=q_ (((V2.o.up (Up.of_below (below_drewN (b_) nq))).up p3.1).up (Up.of_below A7));have P3:=q_ (((P2.o.below (below_drewN (b_) nq)).trans p3 (fun j hj=>by rcases hj with hj | hj <;> (constructor <;> omega))).below A7);have Au:=h_ (Lc U Y3 W3 [.bool pr,i_ pn]) (⟨U3,fun hy=>Nat.lt_irrefl _ (h3.fr.lt _ hy)⟩);obtain ⟨AD,Aa,A3⟩:=H3.o.fr.tru (i:=0) rfl (j:=81) rfl rfl;have Ac:=q_ A3;have Aw:=H3.o.fr.fz (i:=0) rfl;have m0:=Au.o.cell (j:=0) rfl;have m1:=Au.o.cell (j:=1) rfl;clear h3 p3 A7 AF U3 A3 n0 n1 AB fb;go_upto_region 11 with fail;rw [←hU];clear hU;cases pr
  case false =>
   go_wp2;refine ret0 (by rfl) rfl ?_;obtain ⟨Y4,C4,h4,u4,q4,j4⟩:=H3.o.set81 (bk:=AD) Ac.o true (fun _=>rfl);exact ⟨rfl,((P3.o.trans ⟨u4,q4,j4⟩ (fun j hj=>by rcases hj with hj | hj <;> omega)).ms (h4.raise o_))⟩
  by_cases hp:pn=0
  ·subst hp;clear Aa Aw;go_upto_region 14 with fail;obtain ⟨sv,A9⟩:=ex_ (((C3 b).drop 3).take 33);have Ah:(C3 b).length=82:=H3.o.fr.len (i:=0) rfl;have JQ:=h_ (∀ j:Nat,j<38∨72<=j->True) (fun _ _=>trivial);have L0:=q_ V3.o;have KS:=h_ (∀ (w':World) (C':Nat->VL) {Y':NP} {L':Nat},Fr X Z w0 (oneL b K L' :: LL) Y' C' w'->Lc w' Y' w [.bool v.ref,i_ v.n]->(∀ j,3<=j->j<36->(C' b)[j]?=(C3 b)[j]?)->(de_ w' (.pointer (some (f_ b 3)))/\row33V w' (.pointer (some (f_ b 3)))=sv.toArray/\w'.cell? (a_ w)=some (.bool v.ref)/\w'.cell? (f_ w 1)=some (i_ v.n))) (fun w' C' Y' L' hf Az he=>by
    obtain ⟨a1,a2⟩:=cpu_row (hf.box (i:=0) rfl) (hf.len (i:=0) rfl) he
    exact ⟨a1,by rw [A9];exact a2,Az.cell rfl,Az.cell rfl⟩)
   have A0:VTs U Y3 0 cpuT sv:=vts_cpu0 (K:=K) ⟨by rw [A9,List.length_take,List.length_drop,Ah];rfl,fun j t hj=>by
    have A4:j<33:=(e_ hj).1
    have Aj:oneT[3+j]?=some t:=by
     have:oneT=[.sl aw_,.num,.num] ++ (cpuT ++ ([.sl objT,.num] ++ effT ++ [.tru])):=rfl
     rw [this,List.getElem?_append_right t_,List.getElem?_append_left (by simpa [show ([.sl aw_,.num,.num]:List CT).length=3 from rfl] using (show j<cpuT.length from A4))]
     simpa using hj
    obtain ⟨u,q1,q2,q3⟩:=H3.o.fr.get (i:=0) rfl Aj (show dg_ (3+j)=none by unfold dg_;rw [if_neg o_])
    exact ⟨u,by rw [A9,List.getElem?_take,if_pos A4,List.getElem?_drop];exact q1,by have:oneK K (L+1+1+1) (3+j)=K:=by { unfold oneK;rw [if_neg o_] };rw [this] at q3;exact q3⟩⟩
   have A1:=H3.o.call (Below.drew (Below.refl U U));have Ak:=(Pr.refl b JT U Y3 C3).below (Below.drew (Below.refl U U));obtain ⟨AM,AL,_⟩:=A1.fr.num (i:=0) rfl (j:=38) rfl rfl;obtain ⟨Ap,AN,_⟩:=A1.fr.tru (i:=0) rfl (j:=78) rfl rfl;obtain ⟨Aq,AO,_⟩:=A1.fr.tru (i:=0) rfl (j:=79) rfl rfl;obtain ⟨Ar,AP,_⟩:=A1.fr.num (i:=0) rfl (j:=80) rfl rfl;have AS:=A1.fr.fz (i:=0) rfl;have AZ:U.cell? (f_ b 78)=some (.bool Ap):=AN;have B0:U.cell? (f_ b 79)=some (.bool Aq):=AO;have B1:U.cell? (f_ b 80)=some (i_ Ar):=AP;have AT:=H3.o.fr.fz (i:=0) rfl;obtain ⟨Ae,Al⟩:=A1.set (j:=38) (t:=.num) (v:=i_ 2) rfl rfl d_ (.num _) (fun _=>mv_kind (kd:=2) (by rw [gs_,if_pos rfl,if_pos o_]) d_);obtain ⟨Af,Am⟩:=Ae.set (j:=78) (t:=.tru) (v:=.bool true) rfl rfl d_ (.tru _) (fun hm=>cf_ hm (by rw [gs_,if_neg d_]) (by rw [gs_,if_neg d_]) (by rw [gs_,if_neg d_]));obtain ⟨Ax,An⟩:=Af.set (j:=79) (t:=.tru) (v:=.bool v.ref) rfl rfl d_ (.tru _) (fun hm=>cf_ hm (by rw [gs_,if_neg d_]) (by rw [gs_,if_neg d_]) (by rw [gs_,if_neg d_]));obtain ⟨A2,Ao⟩:=Ax.set (j:=80) (t:=.num) (v:=i_ v.n) rfl rfl d_ (.num _) (fun hm=>cf_ hm (by rw [gs_,if_neg d_]) (by rw [gs_,if_neg d_]) (by rw [gs_,if_neg d_]));have A6:=A0.go (((((Ak.1).trans Al.1).trans Am.1).trans An.1).trans Ao.1) (Nat.le_refl 0);have AI:=A2.mv;obtain ⟨Ay,AA⟩:=A2.setCpu (vs:=sv) A6 (fun _=>mv_kind (kd:=2) (by
    rw [upd_same,upd_same,upd_same,upd_same]
    unfold splice
    rw [List.getElem?_append_left (by rw [List.length_take];simp [Ah]),List.getElem?_take,if_pos d_,gs_,if_neg d_,gs_,if_neg d_,gs_,if_neg d_,gs_,if_pos rfl,if_pos o_]) d_)
   have HT:=q_ (A2.fr.there (i:=0) rfl (o:=39) (n:=sv.length) (by rw [A0.1];decide));have HI:=h_ ((prog.info? 62).map (·.size)=some sv.length) (by rw [A0.1];exact isz_62);have HO:=q_ A0;have hJ:∀ (k:Nat),(k=38∨(77<=k/\k<=80))->∀ j,JT j->j≠k:=fun k hk j hj=>by rcases hj with hj | hj <;> omega
   have p0:=h_ (Pr b JT U Y3 C3 _ _ _) Ak;have p1:=q_ (p0.o.trans Al (hJ 38 o_));have p2:=q_ (p1.o.trans Am (hJ 78 o_));have p3:=q_ (p2.o.trans An (hJ 79 o_));have p4:=q_ (p3.o.trans Ao (hJ 80 o_));have p5:=q_ (p4.o.trans AA (fun j hj=>by rcases hj with hj | hj;exact .inl o_;exact .inr o_));have g0:=q_ A1;have g1:=q_ Ae;have g2:=q_ Af;have g4:=q_ A2;have g5:=q_ Ay;have AR:=H3;clear A1 Ae Af Ax A2 Ay Ak Al Am An Ao AA A0 A6 AI A9 Ah m0 m1 hJ
   -- region 14
   refine ar_ (S:=fun w':World=>de_ w' (.pointer (some (f_ b 3)))/\row33V w' (.pointer (some (f_ b 3)))=sv.toArray/\w'.cell? (a_ w)=some (.bool v.ref)/\w'.cell? (f_ w 1)=some (i_ v.n)) rfl (KS.o _ _ g0.o.fr (Lc.up L0.o p0.o.1) (fun j h1 h2=>p0.o.2.2 j (.inl o_))) (fun hHeld=>?_);go_simp;refine aa_ 0 69 ?_;refine aa_ 1 70 ?_;refine aa_ 2 71 ?_;refine aa_ 3 72 ?_;refine aa_ 4 73 ?_;refine aa_ 5 74 ?_;refine aa_ 6 75 ?_;refine aa_ 7 76 ?_;refine aa_ 8 77 ?_;refine aa_ 9 78 ?_;refine aa_ 10 79 ?_;refine aa_ 11 80 ?_;refine ba_ 12 k_ rfl (fun K hK=>?_);go_simp;refine hK.out _ _ (KS.o _ _ g1.o.fr (Lc.up L0.o p1.o.1) (fun j h1 h2=>p1.o.2.2 j (.inl o_))) (fun hHeld=>?_);refine aa_ 13 81 ?_;refine aa_ 14 82 ?_;refine aa_ 15 83 ?_;refine ba_ 16 k_ rfl (fun K hK=>?_);go_simp;refine hK.out _ _ (KS.o _ _ g2.o.fr (Lc.up L0.o p2.o.1) (fun j h1 h2=>p2.o.2.2 j (.inl o_))) (fun hHeld=>?_);refine aa_ 17 84 ?_;refine aa_ 18 85 ?_;refine aa_ 19 86 ?_;refine ba_ 20 k_ rfl (fun K hK=>?_);go_simp;refine hK.out _ _ (KS.o _ _ g4.o.fr (Lc.up L0.o p4.o.1) (fun j h1 h2=>p4.o.2.2 j (.inl o_))) (fun hHeld=>?_);refine aa_ 21 87 ?_;refine aa_ 22 88 ?_;refine aa_ 23 89 ?_;refine ba_ 24 k_ rfl (fun K hK=>?_);rw [if_pos (by rfl)];refine wp_store_mid 62 (.tmp 89) (.tmp 77) rfl b 39 sv.toArray v_ v_ (by rw [List.size_toArray];exact HT.o) (by rw [List.size_toArray];exact HI.o) (by simpa using HO.o.one) ?_;refine hK.out _ _ (KS.o _ _ g5.o.fr (Lc.up L0.o p5.o.1) (fun j h1 h2=>p5.o.2.2 j (.inl o_))) (fun hHeld=>?_);try simp only [Act.put,sA,s0,s1]
   refine wpAnyH_done k_ ?_ _;go_wp2;refine ret0 (by rfl) rfl ?_;exact ⟨rfl,(P3.o.trans p5.o (fun j hj=>hj)).ms (g5.o.raise o_)⟩
   -- end 14
  clear Aa Aw;go_wp2_with fail;refine (ea_ U H3.o o_ 1 0 ⟨true,pn⟩).mono ?_;rintro e W4 ⟨rfl,Y4,C4,h4,p4⟩;have H4:=q_ h4;have V4:=q_ (V3.o.up p4.1);have P4:=q_ (P3.o.trans p4 (fun j hj=>by rcases hj with hj | hj <;> omega));have v0:=V4.o.cell (j:=0) rfl;have v1:=V4.o.cell (j:=1) rfl;clear h4 p4 m0 m1;go_wp2_with fail;refine (ea_ W4 H4.o o_ 1 2 v).mono ?_;rintro e W5 ⟨rfl,Y5,C5,h5,p5⟩;have P5:=q_ (P4.o.trans p5 (fun j hj=>by rcases hj with hj | hj <;> omega));obtain ⟨A,n,c,cv,cs,k0,k1,k2,k3,k4⟩:=h5.code;have x2:=h5.fr.cell (i:=0) rfl k2;obtain ⟨kd,AL,_⟩:=h5.fr.num (i:=0) rfl (j:=38) rfl rfl;obtain ⟨si,AY,_⟩:=h5.fr.num (i:=0) rfl (j:=77) rfl rfl;have AU:=h5.fr.fz (i:=0) rfl;have A5:(C5 b).length=82:=h5.fr.len (i:=0) rfl;obtain ⟨h6,p6⟩:=h5.set (j:=38) (t:=.num) (v:=i_ 1) rfl rfl d_ (.num _) (fun _=>mv_kind (kd:=1) (by rw [gs_,if_pos rfl,if_pos o_]) d_);obtain ⟨h7,p7⟩:=h6.set (j:=77) (t:=.num) (v:=i_ cs) rfl rfl d_ (.num _) (fun hm=>cf_ hm (by rw [gs_,if_neg d_]) (by rw [gs_,if_neg d_]) (by rw [gs_,if_neg d_]));obtain ⟨h8,p8⟩:=h7.setCpu (vs:=cpuV (-1)) (vts_cpuV _) (fun _=>mv_kind (kd:=1) (by
   rw [upd_same,upd_same]
   unfold splice
   rw [List.getElem?_append_left (by rw [List.length_take,List.length_set,List.length_set,A5];decide),List.getElem?_take,if_pos d_,gs_,if_neg d_,gs_,if_pos rfl,if_pos o_]) d_)
  have HT:=q_ (h7.fr.there (i:=0) rfl (o:=39) (n:=(cpuV (-1)).length) d_);have HO:=h_ (VTs W5 Y5 0 cpuT (cpuV (-1))) (vts_cpuV _);have H8:=q_ h8;have P8:=q_ (((P5.o.trans p6 (fun j hj=>by rcases hj with hj | hj <;> omega)).trans p7 (fun j hj=>by rcases hj with hj | hj <;> omega)).trans p8 (fun j hj=>by rcases hj with hj | hj;exact .inl o_;exact .inr o_));clear h5 p5 k0 k1 k2 k3 k4 A5 h6 p6 h7 p7 h8 p8 v0 v1;go_wp2_with (with_reducible refine ab_ rfl 62 (.tmp 113) (.tmp 104) rfl (cpuV (-1)) w_ (by simp [Act.eval,Act.put,cpuV_eq]) HT.o (isz_cpuV _) HO.o.one ?_);refine end0 (by rfl) rfl ?_;exact ⟨rfl,P8.o.ms (H8.o.raise o_)⟩
 obtain ⟨A,n,c,cv,cs,k0,k1,k2,k3,k4⟩:=H2.o.code;have x0:=H2.o.fr.cell (i:=0) rfl k0;have x1:=H2.o.fr.cell (i:=0) rfl k1;have x2:=H2.o.fr.cell (i:=0) rfl k2;have K3:=q_ k3;have K0:=q_ (And.intro k0 (And.intro k1 k2));clear k0 k1 k2 k3;have Av:=h_ (∀ w',Below V V w'->(w'.cell? (a_ b)=some (.slice A n c)/\w'.cell? (f_ b 1)=some (i_ cv)/\w'.cell? (f_ b 2)=some (i_ cs)/\w'.cell? (a_ W2)=some (.bool false)/\w'.cell? (f_ W2 1)=some (i_ hn))) (fun w' hb=>⟨(H2.o.call hb).fr.cell (i:=0) rfl K0.o.1,(H2.o.call hb).fr.cell (i:=0) rfl K0.o.2.1,(H2.o.call hb).fr.cell (i:=0) rfl K0.o.2.2,(HN.o.up (Up.of_below hb)).cell rfl,(HN.o.up (Up.of_below hb)).cell rfl⟩);have hd:@bne Int (@instBEqOfDecidableEq Int Int.instDecidableEq) hn 0=true:=by show (!decide (hn=0))=true;simp [hz]
 clear x0 x1 x2 n0 n1 AB fb
 -- region 4
 refine ar_ (S:=fun w':World=>w'.cell? (a_ b)=some (.slice A n c)/\w'.cell? (f_ b 1)=some (i_ cv)/\w'.cell? (f_ b 2)=some (i_ cs)/\w'.cell? (a_ W2)=some (.bool false)/\w'.cell? (f_ W2 1)=some (i_ hn)) rfl (Av.o _ (Below.drew (b_))) (fun hHeld=>?_);go_simp;refine aa_ 0 20 ?_;refine aa_ 1 21 ?_;refine aa_ 2 22 ?_;refine aa_ 3 23 ?_;refine aa_ 4 24 ?_;refine aa_ 5 25 ?_;try simp only [hd]
 refine aa_ 6 26 ?_;refine aa_ 7 27 ?_;refine aa_ 8 28 ?_;refine aa_ 9 29 ?_;refine aa_ 10 30 ?_;refine aa_ 11 31 ?_;refine aa_ 12 32 ?_;refine ba_ 13 k_ rfl (fun K hK=>?_);go_simp;go_at_call 172;refine (isMark_any A n c cv cs hn l V.drew (K3.o.up (Below.drew (b_))) o_).mono ?_;rintro e S ⟨he,hS⟩;obtain ⟨mk,Ai⟩:∃ mk:Bool,(opAt l hn == 21)=mk:=⟨_,rfl⟩;rw [Ai] at he;subst he;have AC:=q_ Ai;clear Ai;have BS:=h_ (Below V V S) ((Below.drew (b_)).trans hS);clear hS;refine hK.out _ _ (Av.o S BS.o) (fun hHeld=>?_);refine aa_ 14 34 ?_;refine aa_ 15 35 ?_;refine aa_ 16 36 ?_;refine wpAnyH_done k_ ?_ _;have H3:=q_ (H2.o.call BS.o);have V3:=q_ (V2.o.up (Up.of_below BS.o));have P3:=q_ (P2.o.below BS.o);have Ad:=q_ (HN.o.up (Up.of_below BS.o));have AJ:=Ad.o.cell (j:=0) rfl;have AK:=Ad.o.cell (j:=1) rfl;have AE:=H3.o.fr.fz (i:=0) rfl;have Aa:=H3.o.fr.cell (i:=0) rfl Ab.o;clear hHeld;cases mk
 case true =>
  have hm:opAt l hn=21:=by simpa using AC.o
  go_wp2_with fail;refine (ea_ S H3.o o_ f 2 ⟨false,0⟩).mono ?_;rintro e W4 ⟨rfl,Y4,C4,h4,p4⟩;have H4:=q_ h4;have V4:=q_ (V3.o.up p4.1);have As:=q_ (Ad.o.up p4.1);have P4:=q_ (P3.o.trans p4 (fun j hj=>by rcases hj with hj | hj <;> omega));have v0:=V4.o.cell (j:=0) rfl;have v1:=V4.o.cell (j:=1) rfl;clear h4 p4 AJ AK AE Aa;go_wp2_with fail;refine (ea_ W4 H4.o o_ 1 2 v).mono ?_;rintro e W5 ⟨rfl,Y5,C5,h5,p5⟩;have P5:=q_ (P4.o.trans p5 (fun j hj=>by rcases hj with hj | hj <;> omega));have n0:=(As.o.up p5.1).cell (j:=0) rfl;have n1:=(As.o.up p5.1).cell (j:=1) rfl;have A5:(C5 b).length=82:=h5.fr.len (i:=0) rfl;obtain ⟨h8,p8⟩:=h5.setCpu (vs:=cpuV hn) (vts_cpuV _) (fun _=>mv_mark (splice_pc A5 rfl) hm);have HT:=q_ (h5.fr.there (i:=0) rfl (o:=39) (n:=(cpuV hn).length) (show (39+33:Nat)<=82 by decide));have HO:=h_ (VTs W5 Y5 0 cpuT (cpuV hn)) (vts_cpuV _);have H8:=q_ h8;have P8:=q_ (P5.o.trans p8 (fun j hj=>by rcases hj with hj | hj;exact .inl o_;exact .inr o_));clear h5 p5 A5 h8 p8 v0 v1;go_wp2_with (with_reducible refine ab_ rfl 62 (.tmp 56) (.tmp 53) rfl (cpuV hn) w_ (by simp [Act.eval,Act.put,cpuV_eq]) HT.o (isz_cpuV _) HO.o.one ?_);refine ret0 (by rfl) rfl ?_;exact ⟨rfl,P8.o.ms (H8.o.raise o_)⟩
 case false =>
  go_wp2;refine ret0 (by rfl) rfl ?_;obtain ⟨Y4,C4,h4,u4,q4,j4⟩:=H3.o.set81 (bk:=bk) Ab.o true (fun _=>rfl);exact ⟨rfl,((P3.o.trans ⟨u4,q4,j4⟩ (fun j hj=>by rcases hj with hj | hj <;> omega)).ms (h4.raise o_))⟩
 -- end 4
end Go.Proofs.YtfolidlmgfhkiaaGreat
namespace Go.Proofs.YtfolidlmgfhkiaaGreat
open Go.RowKit Go.Proofs.Tryz
theorem fault_m {X Z Y:NP} {w0:World} {LL:List LV} {b K L:Nat} {l:List In} {pc:Int} {C:Nat->VL} (w:World) (h:OneS X Z w0 LL b K L l pc Y C w) (hK:K<=1000000000) (hL:L<=10000) (n:Int) :
  Calls prog 175 #[.pointer (some (a_ b)),i_ n] w fun e w'=>e=.returned (.tuple #[])/\Ms X Z w0 LL b K (L+5) l pc Y C w w' JT:=by
 have HS:=q_ h;clear h;go_enter func175,ntmps175;go_wp2_with fail;refine (throw_m w HS.o hK hL ⟨false,n⟩).mono ?_;rintro e W1 ⟨rfl,h1⟩;have H1:=q_ h1;clear h1;go_wp2;refine end0 (by rfl) rfl ?_;exact ⟨rfl,H1.o⟩
def ROb (e:Ending):Prop:=∃ (f:Int) (ok:Bool),e=.returned (.tuple #[i_ f,.bool ok])
def RVb (e:Ending):Prop:=∃ (f k:Int) (ok:Bool),e=.returned (.tuple #[i_ f,i_ k,.bool ok])
theorem results_tmp3 {P:Program} {fn:Func} {t u s:Tmp} (h:fn.results=#[.tmp t,.tmp u,.tmp s]) (tmps:Array Value) (w:World) :
  (results fn tmps).run P w=.ok (.tuple #[tmps.getD t undef,tmps.getD u undef,tmps.getD s undef]) w:=by
 simp [results,h]
theorem variable_m {X Z Y:NP} {w0:World} {LL:List LV} {b K L:Nat} {l:List In} {pc:Int} {C:Nat->VL} (w:World) (h:OneS X Z w0 LL b K L l pc Y C w) (hK:K<=1000000000) (hL:L<=9999) (n:Int) :
  Calls prog 177 #[.pointer (some (a_ b)),i_ n] w fun e w'=>RVb e/\Ms X Z w0 LL b K (L+6) l pc Y C w w' JT:=by
 have HS:=q_ h;clear h;go_enter func177,ntmps177;go_wp2_with fail;refine (frame_m w HS.o hK o_).mono ?_;rintro e W1 ⟨⟨f,fn,rfl⟩,Y1,C1,h1,p1⟩;have H1:=q_ h1;have P1:=q_ ((Pr.refl b JT w Y C).trans p1 (fun j hj=>by rcases hj with hj | hj <;> (constructor <;> omega)));obtain ⟨bk,A0,_⟩:=h1.fr.tru (i:=0) rfl (j:=81) rfl rfl;clear h1 p1;cases bk
 case true =>
  go_wp2;refine bodyPost_ret (results_tmp3 (by rfl) _ _) rfl ?_;exact ⟨⟨_,_,_,rfl⟩,P1.o.ms (H1.o.raise o_)⟩
 go_wp2_with (go_at_call 175;refine (fault_m W1 H1.o hK o_ (-1)).mono ?_;rintro e W2 ⟨rfl,h2⟩;have H2:=q_ h2;clear h2 A0);all_goals first
  | (refine bodyPost_ret (results_tmp3 (by rfl) _ _) rfl ?_
     obtain ⟨Y2,C2,h2,p2⟩:=H2.o
     exact ⟨⟨_,_,_,rfl⟩,(P1.o.trans p2 (fun j hj=>hj)).ms h2⟩)
  | (refine bodyPost_ret (results_tmp3 (by rfl) _ _) rfl ?_
     exact ⟨⟨_,_,_,rfl⟩,P1.o.ms (H1.o.raise o_)⟩)
theorem object_m {X Z Y:NP} {w0:World} {LL:List LV} {b K L:Nat} {l:List In} {pc:Int} {C:Nat->VL} (w:World) (h:OneS X Z w0 LL b K L l pc Y C w) (hK:K<=1000000000) (hL:L<=9999) (v:Val) (fd:Int) :
  Calls prog 178 #[.pointer (some (a_ b)),.agg #[.bool v.ref,i_ v.n],i_ fd] w fun e w'=>ROb e/\Ms X Z w0 LL b K (L+5) l pc Y C w w' JT:=by
 obtain ⟨V,hV,A1,A6,W0⟩:=af_ w [.bool v.ref,i_ v.n] 38;have H0:=q_ (h.call A1);have V0:=h_ (Lc V Y w [.bool v.ref,i_ v.n]) (⟨W0,fun hy=>Nat.lt_irrefl _ (h.fr.lt _ hy)⟩);have P0:=q_ ((Pr.refl b JT w Y C).below A1);have A9:=h.fr.blt (i:=0) rfl;obtain ⟨vr,vn⟩:=v;have v0:=W0.2.1 0 _ rfl;have v1:=W0.2.1 1 _ rfl;have Aa:(w:Nat)<V:=by omega
 have A8:b<V:=by omega
 clear h A1 A6 W0;go_enter func178,ntmps178;go_upto_region 1 with fail;rw [←hV];clear hV;cases vr
 case false =>
  go_wp2_with (go_at_call 175;refine (fault_m V H0.o hK o_ (-2)).mono ?_;rintro e W2 ⟨rfl,h2⟩;have H2:=q_ h2;clear h2);refine bodyPost_ret (results_tmp2 (by rfl) _ _ _) rfl ?_;obtain ⟨Y2,C2,h2,p2⟩:=H2.o;exact ⟨⟨_,_,rfl⟩,(P0.o.trans p2 (fun j hj=>hj)).ms h2⟩
 by_cases hz:vn=0
 ·subst hz;go_wp2_with (go_at_call 175;refine (fault_m V H0.o hK o_ (-1)).mono ?_;rintro e W2 ⟨rfl,h2⟩;have H2:=q_ h2;clear h2);refine bodyPost_ret (results_tmp2 (by rfl) _ _ _) rfl ?_;obtain ⟨Y2,C2,h2,p2⟩:=H2.o;exact ⟨⟨_,_,rfl⟩,(P0.o.trans p2 (fun j hj=>hj)).ms h2⟩
 obtain ⟨HA,hn,hc,A7,hH,_⟩:=H0.o.fr.slc (i:=0) rfl (j:=36) (e:=objT) rfl rfl;have HH:=h_ (SlT V Y K objT HA hn hc) hH;have KH:=h_ (∀ w',Below V V w'->SlT w' Y K objT HA hn hc) (fun w' hb=>HH.o.go (.of_below hb) (l_));have A3:=h_ (Below V V V.drew) (Below.drew (b_));have A0:=h_ (Below V V (V.drew.alloc (.cells #[i_ 0,.slice none 0 0] 90))) ((Below.drew (b_)).alloc (l_) _);have HZ:=h_ (Bx (V.drew.alloc (.cells #[i_ 0,.slice none 0 0] 90)) V [i_ 0,.slice none 0 0]) (Bx.new V.drew [i_ 0,.slice none 0 0] 90);clear hH;go_upto_region 7 with fail;go_cut [8,9] (fun p ok wx=>∃ (q:Nat) (oi:Int) (oA:OA) (on oc:Nat) (ob:Bool),p=.pointer (some (a_ q))/\ok=.bool ob/\V<=q/\Hid (Bx wx q [i_ oi,.slice oA on oc])/\Hid (Below V V wx))
 case first =>
  go_region_law (first
   | (go_simp;go_at_call 133;refine (Get_t Y K HA hn hc vn V.drew (KH.o _ A3.o) o_).mono ?_;rintro e S ⟨⟨oi,oA,on,oc,ob,rfl⟩,hS⟩;have BS:=h_ (Below V V S) (A3.o.trans hS);clear hS)
   | (go_simp;go_at_call 133;refine (Get_t Y K HA hn hc vn (V.drew.alloc (.cells #[.int .i64 0,.slice none 0 0] 90)) (KH.o _ A0.o) o_).mono ?_;rintro e S ⟨⟨oi,oA,on,oc,ob,rfl⟩,hS⟩;have BS:=h_ (Below V V S) (A0.o.trans (hS.mono A0.o.size));have BZ:=q_ (HZ.o.below hS);have z0:=BZ.o.2.1 0 _ rfl;have z1:=BZ.o.2.1 1 _ rfl;have zf:=BZ.o.2.2;clear hS))
  all_goals
   go_wp2_with fail;go_meet;first
    | exact ⟨_,oi,oA,on,oc,ob,rfl,rfl,BS.o.size,q_ (Bx.new S [.int .i64 oi,.slice oA on oc] _),q_ (BS.o.alloc BS.o.size _)⟩
    | exact ⟨V,oi,oA,on,oc,ob,rfl,rfl,l_,q_ ((BZ.o.set 0 _).set 1 _),q_ ((BS.o.setCell (l_) _).setCell (l_) _)⟩
 obtain ⟨q,oi,oA,on,oc,ob,rfl,rfl,hq,hB,A2⟩:=hcut;have H3:=q_ (H0.o.call A2.o);have P3:=q_ (P0.o.below A2.o);have V3:=V0.o.up (Up.of_below A2.o);have y0:=V3.cell (j:=0) rfl;have y1:=V3.cell (j:=1) rfl;have b1:=hB.o.2.1 1 _ rfl;obtain ⟨bk,Ab,A4⟩:=H3.o.fr.tru (i:=0) rfl (j:=81) rfl rfl;have A5:=q_ A4;have fb:=H3.o.fr.fz (i:=0) rfl;clear A4 v0 v1 A7 V3;cases ob
 case false =>
  go_wp2;refine bodyPost_ret (results_tmp2 (by rfl) _ _ _) rfl ?_;obtain ⟨Y4,C4,h4,u4,q4,j4⟩:=H3.o.set81 (bk:=bk) A5.o true (fun _=>rfl);exact ⟨⟨_,_,rfl⟩,((P3.o.trans ⟨u4,q4,j4⟩ (fun j hj=>by rcases hj with hj | hj <;> omega)).ms (h4.raise o_))⟩
 by_cases hf:(on:Int)<=fd
 ·go_wp2_with (go_at_call 175;refine (fault_m wc H3.o hK o_ (-1)).mono ?_;rintro e W2 ⟨rfl,h2⟩;have H2:=q_ h2;clear h2);refine bodyPost_ret (results_tmp2 (by rfl) _ _ _) rfl ?_;obtain ⟨Y2,C2,h2,p2⟩:=H2.o;exact ⟨⟨_,_,rfl⟩,(P3.o.trans p2 (fun j hj=>hj)).ms h2⟩
 go_wp2_with fail;refine bodyPost_ret (results_tmp2 (by rfl) _ _ _) rfl ?_;exact ⟨⟨_,_,rfl⟩,P3.o.ms (H3.o.raise o_)⟩
end Go.Proofs.YtfolidlmgfhkiaaGreat
