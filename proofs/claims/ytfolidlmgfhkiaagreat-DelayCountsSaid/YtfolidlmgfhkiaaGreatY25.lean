/- Lemmas on functions of the program, under the conditions that each states. -/
import Derived.Test.YtfolidlmgfhkiaaGreatY22
set_option linter.unusedVariables false
set_option linter.unusedSimpArgs false
set_option maxRecDepth 100000
set_option maxHeartbeats 4000000
namespace Go.Proofs.YtfolidlmgfhkiaaGreat
open Go.RowKit Go.Proofs.Tryz
theorem rest_load {X Z Y:NP} {w0:World} {LL:List LV} {b K L:Nat} {l:List In} {pc:Int} {C:Nat->VL} (w:World) (h:OneS X Z w0 LL b K L l pc Y C w) (hK:K<=1000000000) (hL:100<=L/\L<=9000) (i:Nat) (x:In) (hpc:pc=(i:Int)) (hx:OkI l i x) (hop:x.op=5) :
  Calls prog 127 #[.pointer (some (a_ b)),.agg #[i_ x.op,i_ x.a,i_ x.b,i_ x.c,i_ x.n]] w fun e w'=>e=.returned (.tuple #[])/\Ms X Z w0 LL b K (L+30) l pc Y C w w' (fun j=>j<38):=by
 subst hpc;obtain ⟨V,hV,A1,A4,W0⟩:=ag_ w [i_ x.op,i_ x.a,i_ x.b,i_ x.c,i_ x.n] 202;have H0:=q_ (h.call A1);have I0:=h_ (Lc V Y w [i_ x.op,i_ x.a,i_ x.b,i_ x.c,i_ x.n]) (⟨W0,fun hy=>Nat.lt_irrefl _ (h.fr.lt _ hy)⟩);have P0:=q_ ((Pr.refl b (fun j=>j<38) w Y C).below A1);have HX:=q_ hx;have A9:=h.fr.blt (i:=0) rfl;obtain ⟨k,hk,A2⟩:∃ k:Nat,k<16/\x.a=(k:Int):=⟨x.a.toNat,zl_,zl_⟩;obtain ⟨op,xa,xb,xc,xn⟩:=x;have A2:xa=(k:Int):=A2;subst A2;have hop:op=5:=hop;subst hop;have v0:=W0.2.1 0 _ rfl;have v1:=W0.2.1 1 _ rfl;have Ab:(w:Nat)<V:=by omega
 have A5:b<V:=by omega
 clear h A1 A4 W0 hx;go_enter func127,ntmps127;go_upto_region 1 with fail;rw [<-hV];clear hV;have Aa:(k:Int)<16:=by omega
 obtain ⟨rt,r0,_⟩:=H0.o.fr.tru (i:=0) rfl (j:=4+k*2) (ao_ k hk).1 (as_ _ o_);obtain ⟨rn,r1,_⟩:=H0.o.fr.num (i:=0) rfl (j:=4+k*2+1) (ao_ k hk).2.1 (as_ _ o_);go_cut [4] (fun p wx=>∃ q:Nat,p=.pointer (some (a_ q))/\V<=q/\Hid (Bx wx q [.bool rt,i_ rn])/\Hid (Below V V wx))
 case first =>
  exact cuF
 obtain ⟨q,rfl,hq,hB,A0⟩:=hcut;have H1:=q_ (H0.o.call A0.o);have I1:=q_ (I0.o.up (Up.of_below A0.o));have P1:=q_ (P0.o.below A0.o);have Q1:=h_ (Lc wc Y q [.bool rt,i_ rn]) (⟨hB.o,fun hy=>by have:=H0.o.fr.lt _ hy;omega⟩);have y0:=I1.o.cell (j:=0) rfl;have y1:=I1.o.cell (j:=1) rfl;have y2:=I1.o.cell (j:=2) rfl;have y3:=I1.o.cell (j:=3) rfl;have y4:=I1.o.cell (j:=4) rfl;have A8:b<wc:=lt_ A5 A0.o.size;clear v0 v1 r0 r1 hB;obtain ⟨kb,A3,A7⟩:∃ kb:Nat,kb<16/\xb=(kb:Int):=⟨xb.toNat,xk_,xk_⟩;subst A7;have A6:(kb:Int)<16:=by omega
 obtain ⟨st,s0,_⟩:=H1.o.fr.tru (i:=0) rfl (j:=4+kb*2) (ao_ kb A3).1 (as_ _ o_);obtain ⟨sn,s1,_⟩:=H1.o.fr.num (i:=0) rfl (j:=4+kb*2+1) (ao_ kb A3).2.1 (as_ _ o_);have B1:=h_ (Below wc wc wc.drew) (Below.drew (b_));go_upto_region 4 with fail;go_region_law (go_simp;go_at_call 178;refine (object_m wc.drew (H1.o.call B1.o) hK o_ ⟨st,sn⟩ xn).mono ?_;rintro e W2 ⟨⟨f,ok,rfl⟩,hM⟩;have HM:=q_ hM;clear hM s0 s1 y0 y1 y2 y3 y4);all_goals
  obtain ⟨Y2,C2,h2,p2⟩:=HM.o;have H2:=q_ h2;have I2:=q_ ((I1.o.up (Up.of_below B1.o)).up p2.1);have Q2:=q_ ((Q1.o.up (Up.of_below B1.o)).up p2.1);have P2:=q_ ((P1.o.below B1.o).trans p2 (fun j hj=>.inl hj));have y1:=I2.o.cell (j:=1) rfl;have y4:=I2.o.cell (j:=4) rfl;have q0:=Q2.o.cell (j:=0) rfl;have q1:=Q2.o.cell (j:=1) rfl;clear h2 p2 HM;cases ok
  case false =>
   exact uk_
  obtain ⟨ut,r0,_⟩:=H2.o.fr.tru (i:=0) rfl (j:=40+k*2) (ao_ k hk).2.2.1 (as_ _ o_);obtain ⟨un,r1,_⟩:=H2.o.fr.num (i:=0) rfl (j:=40+k*2+1) (ao_ k hk).2.2.2 (as_ _ o_);have fb:=H2.o.fr.fz (i:=0) rfl;have B2:=h_ (Below W2 W2 W2.drew) (Below.drew (b_));go_upto_region 6 with fail;go_region_law (go_simp;go_at_call 124;refine (dx_ W2.drew (H2.o.call B2.o) hK o_ f xn).mono ?_;rintro e W3 ⟨⟨v,rfl⟩,hM⟩;obtain ⟨Y3,C3,h3,p3⟩:=hM;have H3:=q_ h3;have P3:=q_ ((P2.o.below B2.o).trans p3 (fun j hj=>⟨o_,o_⟩));have I3:=q_ ((I2.o.up (Up.of_below B2.o)).up p3.1);clear h3 p3 r0 r1 fb q0 q1 y1 y4;have z1:=I3.o.cell (j:=1) rfl;obtain ⟨ut,r0,_⟩:=H3.o.fr.tru (i:=0) rfl (j:=40+k*2) (ao_ k hk).2.2.1 (as_ _ o_);obtain ⟨un,r1,_⟩:=H3.o.fr.num (i:=0) rfl (j:=40+k*2+1) (ao_ k hk).2.2.2 (as_ _ o_);have fb:=H3.o.fr.fz (i:=0) rfl);all_goals
   obtain ⟨Y4,C4,h5,p5⟩:=H3.o.setReg hk v;go_wp2;refine end0 zc_ rfl ?_;exact ⟨rfl,(P3.o.trans p5 (fun j hj=>.inl o_)).ms (h5.raise o_)⟩
end Go.Proofs.YtfolidlmgfhkiaaGreat
