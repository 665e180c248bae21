/- Lemmas on functions of the program, under the conditions that each states. -/
import Derived.Test.YtfolidlmgfhkiaaGreatV25
set_option linter.unusedVariables false
set_option linter.unusedSimpArgs false
set_option maxRecDepth 100000
set_option maxHeartbeats 4000000
namespace Go.Proofs.YtfolidlmgfhkiaaGreat
open Go.RowKit Go.Proofs.Tryz
section
variable {X Z Y:NP} {w0 w:World} {LL:List LV} {b K L:Nat} {l:List In} {pc:Int} {C:Nat->VL}
theorem OneS.setReg (h:OneS X Z w0 LL b K L l pc Y C w) {k:Nat} (hk:k<16) (v:Val):Ms X Z w0 LL b K L l pc Y C w ((w.setCell ⟨b,40+k*2,none⟩ (.bool v.ref)).setCell ⟨b,40+k*2+1,none⟩ (i_ v.n)) (fun j=>j<40\/72<=j):=by
 obtain ⟨h5,p5⟩:=h.set (j:=40+k*2) (t:=.tru) (v:=.bool v.ref) (an_ k hk).2.2.1 (as_ _ o_) o_ (.tru _) (fun hm=>ci_ hm zo_ zo_ zo_);obtain ⟨h6,p6⟩:=h5.set (j:=40+k*2+1) (t:=.num) (v:=i_ v.n) (an_ k hk).2.2.2 (as_ _ o_) o_ (.num _) (fun hm=>ci_ hm zo_ zo_ zo_);exact (((Pr.refl b (fun j=>j<40\/72<=j) w Y C).trans p5 (fun j hj=>o_)).trans p6 (fun j hj=>o_)).ms h6
end
theorem plain_m {X Z Y:NP} {w0:World} {LL:List LV} {b K L:Nat} {l:List In} {pc:Int} {C:Nat->VL} (w:World) (h:OneS X Z w0 LL b K L l pc Y C w) (hK:K<=1000000000) (hL:L<=9000) (i:Nat) (x:In) (hpc:pc=(i:Int)) (hx:OkI l i x) (h21:x.op≠21) :
  Calls prog 125 #[.pointer (some (a_ b)),.agg #[i_ x.op,i_ x.a,i_ x.b,i_ x.c,i_ x.n]] w fun e w'=>RB e/\Ms X Z w0 LL b K (L+20) l pc Y C w w' (fun j=>j<38):=by
 subst hpc;obtain ⟨V,hV,A3,Ac,W0⟩:=af_ w [i_ x.op,i_ x.a,i_ x.b,i_ x.c,i_ x.n] 202;have H0:=q_ (h.call A3);have I0:=h_ (Lc V Y w [i_ x.op,i_ x.a,i_ x.b,i_ x.c,i_ x.n]) (⟨W0,fun hy=>Nat.lt_irrefl _ (h.fr.lt _ hy)⟩);have P0:=q_ ((Pr.refl b (fun j=>j<38) w Y C).below A3);have HX:=q_ hx;have Ai:=h.fr.blt (i:=0) rfl;obtain ⟨k,hk,A6⟩:∃ k:Nat,k<16/\x.a=(k:Int):=⟨x.a.toNat,zk_,zk_⟩;have A1:=hx.op;obtain ⟨op,xa,xb,xc,xn⟩:=x;have A6:xa=(k:Int):=A6;subst A6;have A1:0<=op/\op<=21:=A1;have h21:op≠21:=h21;have v0:=W0.2.1 0 _ rfl;have v1:=W0.2.1 1 _ rfl;have v2:=W0.2.1 2 _ rfl;have v3:=W0.2.1 3 _ rfl;have v4:=W0.2.1 4 _ rfl;have Ak:(w:Nat)<V:=by omega
 have Ad:b<V:=by omega
 obtain ⟨rt,r0,_⟩:=H0.o.fr.tru (i:=0) rfl (j:=40+k*2) (an_ k hk).2.2.1 (as_ _ o_);obtain ⟨rn,r1,_⟩:=H0.o.fr.num (i:=0) rfl (j:=40+k*2+1) (an_ k hk).2.2.2 (as_ _ o_);have fb:=H0.o.fr.fz (i:=0) rfl;have Aj:(k:Int)<16:=by omega
 clear h A3 Ac W0 hx;go_enter func125,ntmps125;go_upto_region 1 with fail;rw [<-hV];clear hV;by_cases h0:op=0
 ·subst h0;go_wp2;go_ret;exact ⟨⟨_,rfl⟩,P0.o.ms (H0.o.raise o_)⟩
 by_cases h1:op=1
 ·subst h1;go_upto_region 6 with fail;go_region_law fail;all_goals
   obtain ⟨Y1,C1,h5,p5⟩:=(H0.o.call (Below.drew (b_))).setReg hk ⟨false,xn⟩;exact v4_
 by_cases h2:op=2
 ·subst h2;go_upto_region 8 with fail;go_region_law fail;all_goals
   obtain ⟨Y1,C1,h5,p5⟩:=(H0.o.call (Below.drew (b_))).setReg hk ⟨true,0⟩;exact v4_
 by_cases h3:op=3
 ·subst h3;obtain ⟨kb,A0,A7⟩:∃ kb:Nat,kb<16/\xb=(kb:Int):=⟨xb.toNat,xd_,xd_⟩;subst A7;have A5:(kb:Int)<16:=by omega
  obtain ⟨st,s0,_⟩:=H0.o.fr.tru (i:=0) rfl (j:=40+kb*2) (an_ kb A0).2.2.1 (as_ _ o_);obtain ⟨sn,s1,_⟩:=H0.o.fr.num (i:=0) rfl (j:=40+kb*2+1) (an_ kb A0).2.2.2 (as_ _ o_);go_upto_region 10 with fail;go_region_law fail;all_goals
   obtain ⟨Y1,C1,h5,p5⟩:=(H0.o.call (Below.drew (b_))).setReg hk ⟨st,sn⟩;exact v4_
 by_cases h11:op=11
 ·subst h11;obtain ⟨Ah,Ag,_⟩:=H0.o.fr.num (i:=0) rfl (j:=39) rfl rfl;have hl:(C b).length=82:=H0.o.fr.len (i:=0) rfl;obtain ⟨h5,p5⟩:=H0.o.set (j:=39) (t:=.num) (v:=i_ xn) rfl rfl d_ (.num _) (fun _=>by
   rcases HX.o.jump (.inl rfl) with hj | hj
   ·intro kd p h1 h2 h3
    rw [gs_,if_pos rfl,if_pos o_] at h2
    injection h2 with h2
    injection h2 with _ h2
    exact .inr (.inl (by subst h2;exact hj))
   exact mv_mark zy_ hj)
  go_wp2;go_ret;exact ⟨⟨_,rfl⟩,(P0.o.trans p5 (fun j hj=>o_)).ms (h5.raise o_)⟩
 by_cases h16:op=16
 ·subst h16;go_upto_region 26 with fail;go_region_law (go_simp;go_at_call 123;refine (throw_m V.drew (H0.o.call (Below.drew (b_))) hK o_ ⟨rt,rn⟩).mono ?_;rintro e S ⟨rfl,h5⟩;have H5:=q_ h5;clear h5);all_goals
   go_wp2;exact us_
 by_cases h12:op=12
 ·subst h12;go_upto_region 20 with fail;go_region_law (go_simp;go_at_call 176;refine (Truthy_any ⟨rt,rn⟩ V.drew).mono ?_;rintro e S ⟨⟨tb,rfl⟩,hS⟩;have BS:=h_ (Below V V S) ((Below.drew (b_)).trans hS);clear hS v0 v1 v2 v3 v4 r0 r1 fb);all_goals
   have H3:=q_ (H0.o.call BS.o);have P3:=q_ (P0.o.below BS.o);have I3:=q_ (I0.o.up (Up.of_below BS.o));have y4:=I3.o.cell (j:=4) rfl;obtain ⟨Ah,Ag,_⟩:=H3.o.fr.num (i:=0) rfl (j:=39) rfl rfl;have fb:=H3.o.fr.fz (i:=0) rfl;have hl:(C b).length=82:=H0.o.fr.len (i:=0) rfl;cases tb
   case true =>
    go_wp2;go_ret;exact ⟨⟨_,rfl⟩,P3.o.ms (H3.o.raise o_)⟩
   obtain ⟨h5,p5⟩:=H3.o.set (j:=39) (t:=.num) (v:=i_ xn) rfl rfl d_ (.num _) (fun _=>by
    rcases HX.o.jump (.inr rfl) with hj | hj
    ·intro kd p h1 h2 h3
     rw [gs_,if_pos rfl,if_pos o_] at h2
     injection h2 with h2
     injection h2 with _ h2
     exact .inr (.inl (by subst h2;exact hj))
    exact mv_mark zy_ hj)
   go_wp2;go_ret;exact ⟨⟨_,rfl⟩,(P3.o.trans p5 (fun j hj=>o_)).ms (h5.raise o_)⟩
 by_cases h4:op=4
 ·subst h4;obtain ⟨kb,A0,A7⟩:∃ kb:Nat,kb<16/\xb=(kb:Int):=⟨xb.toNat,xe_,xe_⟩;obtain ⟨kc,Aa,Af⟩:∃ kc:Nat,kc<16/\xc=(kc:Int):=⟨xc.toNat,wk_,wk_⟩;subst A7 Af;have A5:(kb:Int)<16:=by omega
  have Ae:(kc:Int)<16:=by omega
  obtain ⟨st,s0,e0⟩:=H0.o.fr.tru (i:=0) rfl (j:=40+kb*2) (an_ kb A0).2.2.1 (as_ _ o_);obtain ⟨sn,s1,e1⟩:=H0.o.fr.num (i:=0) rfl (j:=40+kb*2+1) (an_ kb A0).2.2.2 (as_ _ o_);obtain ⟨ut,u0,e2⟩:=H0.o.fr.tru (i:=0) rfl (j:=40+kc*2) (an_ kc Aa).2.2.1 (as_ _ o_);obtain ⟨un,u1,e3⟩:=H0.o.fr.num (i:=0) rfl (j:=40+kc*2+1) (an_ kc Aa).2.2.2 (as_ _ o_);have A8:=h_ (Below V V V.drew) (Below.drew (b_));have A2:=h_ (Below V V (V.drew.alloc (.cells #[.bool false,i_ 0] 38))) ((Below.drew (b_)).alloc (l_) _);have HZ:=h_ (Bx (V.drew.alloc (.cells #[.bool false,i_ 0] 38)) V [.bool false,i_ 0]) (Bx.new V.drew [.bool false,i_ 0] 38);clear r0 r1;go_upto_region 12 with fail;go_cut [6,7] (fun p f wx=>∃ (q:Nat) (an af:Int),p=.pointer (some (a_ q))/\f=i_ af/\V<=q/\Hid (Bx wx q [.bool false,i_ an])/\Hid (Below V V wx))
  case first =>
   have KS:=h_ (∀ w':World,Below V V w'->(w'.cell? (f_ w 2)=some (i_ kb)/\w'.cell? (f_ w 3)=some (i_ kc)/\w'.cell? (f_ w 4)=some (i_ xn)/\w'.cell? ⟨b,40+kb*2,none⟩=some (.bool st)/\w'.cell? ⟨b,40+kb*2+1,none⟩=some (i_ sn)/\w'.cell? ⟨b,40+kc*2,none⟩=some (.bool ut)/\w'.cell? ⟨b,40+kc*2+1,none⟩=some (i_ un))) (fun w' hb=>⟨(I0.o.up (Up.of_below hb)).cell (j:=2) rfl,(I0.o.up (Up.of_below hb)).cell (j:=3) rfl,(I0.o.up (Up.of_below hb)).cell (j:=4) rfl,(H0.o.call hb).fr.cell (i:=0) rfl e0,(H0.o.call hb).fr.cell (i:=0) rfl e1,(H0.o.call hb).fr.cell (i:=0) rfl e2,(H0.o.call hb).fr.cell (i:=0) rfl e3⟩);clear e0 e1 e2 e3 v0 v1 v2 v3 v4 s0 s1 u0 u1;refine aq_ (S:=fun w':World=>w'.cell? (f_ w 2)=some (i_ kb)/\w'.cell? (f_ w 3)=some (i_ kc)/\w'.cell? (f_ w 4)=some (i_ xn)/\w'.cell? ⟨b,40+kb*2,none⟩=some (.bool st)/\w'.cell? ⟨b,40+kb*2+1,none⟩=some (i_ sn)/\w'.cell? ⟨b,40+kc*2,none⟩=some (.bool ut)/\w'.cell? ⟨b,40+kc*2+1,none⟩=some (i_ un)) rfl (KS.o _ A8.o) (fun _=>?_);go_simp;refine aa_ 0 51 ?_;refine aa_ 1 52 ?_;refine aa_ 2 53 ?_;refine aa_ 3 54 ?_;refine aa_ 4 55 ?_;refine aa_ 5 56 ?_;refine aa_ 6 57 ?_;refine aa_ 7 58 ?_;refine aa_ 8 59 ?_;refine aa_ 9 60 ?_;refine aa_ 10 61 ?_;refine aa_ 11 62 ?_;refine aa_ 12 63 ?_;refine aa_ 13 64 ?_;refine wpAnyH_ready (rs:=[14,18]) k_ t_ (AllReadyH.cons rfl (fun K hK=>?_) (AllReadyH.cons rfl (fun K hK=>?_) AllReadyH.nil))
   ·go_simp;go_at_call 174;refine (Apply_any xn ⟨st,sn⟩ ⟨ut,un⟩ V.drew).mono ?_;rintro e S ⟨⟨an,af,rfl⟩,hS⟩;have BS:=h_ (Below V V S) (A8.o.trans hS);clear hS;refine hK.out _ _ (KS.o _ BS.o) (fun _=>?_);refine aa_ 15 50 ?_;refine aa_ 16 66 ?_;refine aa_ 17 67 ?_;refine ba_ 18 k_ rfl (fun K hK=>?_);go_simp;have Ab:=h_ (Below V V (S.alloc (.cells #[.bool false,i_ 0] 38))) (BS.o.alloc BS.o.size _);have z0:=(Bx.new S [.bool false,i_ 0] 38).2.1 0 _ rfl;have z1:=(Bx.new S [.bool false,i_ 0] 38).2.1 1 _ rfl;have zf:=(Bx.new S [.bool false,i_ 0] 38).2.2;refine hK.out _ _ (KS.o _ Ab.o) (fun _=>?_);refine bc_ 19 fun K hK=>?_
    go_simp;refine hK.out _ _ (KS.o _ (BS.o.alloc BS.o.size _)) (fun _=>?_);refine aa_ 20 7 ?_;refine wpAnyH_done k_ ?_ _;go_wp2_with fail;go_meet;exact ⟨_,an,af,rfl,rfl,BS.o.size,q_ (Bx.new S [.bool false,i_ an] _),q_ (BS.o.alloc BS.o.size _)⟩
   go_simp;refine hK.out _ _ (KS.o _ A2.o) (fun _=>?_);refine bc_ 14 fun K hK=>?_
   go_simp;go_at_call 174;refine (Apply_any xn ⟨st,sn⟩ ⟨ut,un⟩ (V.drew.alloc (.cells #[.bool false,i_ 0] 38))).mono ?_;rintro e S ⟨⟨an,af,rfl⟩,hS⟩;have BS:=h_ (Below V V S) (A2.o.trans (hS.mono A2.o.size));have BZ:=q_ (HZ.o.below hS);have z0:=BZ.o.2.1 0 _ rfl;have z1:=BZ.o.2.1 1 _ rfl;have zf:=BZ.o.2.2;clear hS;refine hK.out _ _ (KS.o _ BS.o) (fun _=>?_);refine aa_ 15 50 ?_;refine aa_ 16 66 ?_;refine aa_ 17 67 ?_;refine ba_ 19 k_ rfl (fun K hK=>?_);go_simp;refine hK.out _ _ (KS.o _ ((BS.o.setCell (l_) _).setCell (l_) _)) (fun _=>?_);refine aa_ 20 7 ?_;refine wpAnyH_done k_ ?_ _;go_wp2_with fail;go_meet;exact ⟨V,an,af,rfl,rfl,l_,q_ ((BZ.o.set 0 _).set 1 _),q_ ((BS.o.setCell (l_) _).setCell (l_) _)⟩
  clear e0 e1 e2 e3;obtain ⟨q,an,af,rfl,rfl,hq,hB,A4⟩:=hcut;have H3:=q_ (H0.o.call A4.o);have P3:=q_ (P0.o.below A4.o);have I3:=q_ (I0.o.up (Up.of_below A4.o));have y1:=I3.o.cell (j:=1) rfl;have b0:=hB.o.2.1 0 _ rfl;have b1:=hB.o.2.1 1 _ rfl;obtain ⟨rt,r0,_⟩:=H3.o.fr.tru (i:=0) rfl (j:=40+k*2) (an_ k hk).2.2.1 (as_ _ o_);obtain ⟨rn,r1,_⟩:=H3.o.fr.num (i:=0) rfl (j:=40+k*2+1) (an_ k hk).2.2.2 (as_ _ o_);have fb:=H3.o.fr.fz (i:=0) rfl;clear v0 v1 v2 v3 v4 s0 s1 u0 u1;by_cases hf:af=0
  ·subst hf;go_upto_region 16 with fail;go_region_law fail;all_goals
    obtain ⟨Y1,C1,h5,p5⟩:=(H3.o.call (Below.drew (b_))).setReg hk ⟨false,an⟩;go_wp2;go_ret;exact ⟨⟨_,rfl⟩,((P3.o.below (Below.drew (b_))).trans p5 (fun j hj=>.inl o_)).ms (h5.raise o_)⟩
  go_wp2_with (go_at_call 175;refine (fault_m wc H3.o hK o_ af).mono ?_;rintro e W5 ⟨rfl,h5⟩;have H5:=q_ h5;clear h5);exact u4_
 by_cases h19:op=19
 ·subst h19;cases rt
  case true =>
   go_upto_region 28 with fail;go_region_law fail;all_goals
    go_wp2_with (go_at_call 175;refine (fault_m V.drew (H0.o.call (Below.drew (b_))) hK o_ (-2)).mono ?_;rintro e W5 ⟨rfl,h5⟩;have H5:=q_ h5;clear h5);exact us_
  go_upto_region 28 with fail;obtain ⟨aA,an,ac,Al,_,_⟩:=H0.o.fr.slc (i:=0) rfl (j:=76) (e:=actT) rfl rfl;go_region_law fail;all_goals
   go_upto_region 31 with fail;go_region_law fail;all_goals
    have hA:=H0.o.call ((Below.refl V V).alloc (l_) (.cells #[.bool false,i_ rn,i_ 0] 152));have A9:=SlT.lit1 (w:=V) (X:=Y) (K:=L+20) (e:=actT) (vs:=[.bool false,i_ rn,i_ 0]) (VTs.cons (.tru _) (VTs.cons (.num _) (VTs.cons (.num _) VTs.nil))) 152 (fun h=>Nat.lt_irrefl _ (H0.o.fr.lt _ h)) o_;obtain ⟨h6,p6⟩:=(hA.raise (L':=L+20) o_).set (j:=76) (t:=.sl actT) rfl rfl d_ A9.vt (fun hm=>ci_ hm ze_ ze_ ze_);have P6:=(P0.o.below ((Below.refl V V).alloc (l_) (.cells #[.bool false,i_ rn,i_ 0] 152))).trans p6 (fun j hj=>o_);rw [World.setCell_alloc_past _ _ _ _ Ad] at h6 P6;have HD:=h_ (∀ B,Below B ((V.setCell (f_ b 76) (.slice (some (a_ V)) 1 1)).alloc (.cells #[.bool false,i_ rn,i_ 0] 152)) (((V.setCell (f_ b 76) (.slice (some (a_ V)) 1 1)).alloc (.cells #[.bool false,i_ rn,i_ 0] 152)).drew.drew)) (fun B=>Below.drew (Below.drew (b_)));have HM:=q_ ((P6.below (HD.o _)).ms (h6.call (HD.o _)));clear hA A9 h6 p6 P6;go_wp2;go_ret;exact ⟨⟨_,rfl⟩,HM.o⟩
 go_wp2;go_ret;exact ⟨⟨_,rfl⟩,P0.o.ms (H0.o.raise o_)⟩
end Go.Proofs.YtfolidlmgfhkiaaGreat
