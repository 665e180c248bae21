/- Lemmas on functions of the program, under the conditions that each states. -/
import Derived.Test.YtfolidlmgfhkiaaGreatY22
set_option linter.unusedVariables false
set_option linter.unusedSimpArgs false
set_option maxRecDepth 100000
set_option maxHeartbeats 4000000
namespace Go.Proofs.YtfolidlmgfhkiaaGreat
open Go.RowKit Go.Proofs.Tryz
theorem rest_call {X Z Y:NP} {w0:World} {LL:List LV} {b K L:Nat} {l:List In} {pc:Int} {C:Nat->VL} (w:World) (h:OneS X Z w0 LL b K L l pc Y C w) (hK:K<=1000000000) (hL:100<=L/\L<=9000) (i:Nat) (x:In) (hpc:pc=(i:Int)) (hx:OkI l i x) (hop:x.op=13) :
  Calls prog 127 #[.pointer (some (a_ b)),.agg #[i_ x.op,i_ x.a,i_ x.b,i_ x.c,i_ x.n]] w fun e w'=>e=.returned (.tuple #[])/\Ms X Z w0 LL b K (L+30) l pc Y C w w' (fun j=>j<38):=by
 subst hpc;obtain ⟨V,hV,A8,Ay,W0⟩:=ag_ w [i_ x.op,i_ x.a,i_ x.b,i_ x.c,i_ x.n] 202;have H0:=q_ (h.call A8);have I0:=h_ (Lc V Y w [i_ x.op,i_ x.a,i_ x.b,i_ x.c,i_ x.n]) (⟨W0,fun hy=>Nat.lt_irrefl _ (h.fr.lt _ hy)⟩);have P0:=q_ ((Pr.refl b (fun j=>j<38) w Y C).below A8);have HX:=q_ hx;have AH:=h.fr.blt (i:=0) rfl;obtain ⟨k,hk,Ag⟩:∃ k:Nat,k<16/\x.a=(k:Int):=⟨x.a.toNat,zl_,zl_⟩;obtain ⟨op,xa,xb,xc,xn⟩:=x;have Ag:xa=(k:Int):=Ag;subst Ag;have hop:op=13:=hop;subst hop;have v0:=W0.2.1 0 _ rfl;have v1:=W0.2.1 1 _ rfl;have AP:(w:Nat)<V:=by omega
 have Az:b<V:=by omega
 clear h A8 Ay W0 hx;go_enter func127,ntmps127;go_upto_region 1 with fail;rw [<-hV];clear hV;have AJ:(k:Int)<16:=by omega
 obtain ⟨rt,r0,_⟩:=H0.o.fr.tru (i:=0) rfl (j:=4+k*2) (ao_ k hk).1 (as_ _ o_);obtain ⟨rn,r1,_⟩:=H0.o.fr.num (i:=0) rfl (j:=4+k*2+1) (ao_ k hk).2.1 (as_ _ o_);go_cut [4] (fun p wx=>∃ q:Nat,p=.pointer (some (a_ q))/\V<=q/\Hid (Bx wx q [.bool rt,i_ rn])/\Hid (Below V V wx))
 case first =>
  exact cuF
 obtain ⟨q,rfl,hq,hB,A3⟩:=hcut;have H1:=q_ (H0.o.call A3.o);have I1:=q_ (I0.o.up (Up.of_below A3.o));have P1:=q_ (P0.o.below A3.o);have Q1:=h_ (Lc wc Y q [.bool rt,i_ rn]) (⟨hB.o,fun hy=>by have:=H0.o.fr.lt _ hy;omega⟩);have y0:=I1.o.cell (j:=0) rfl;have y1:=I1.o.cell (j:=1) rfl;have y2:=I1.o.cell (j:=2) rfl;have y3:=I1.o.cell (j:=3) rfl;have y4:=I1.o.cell (j:=4) rfl;have AG:b<wc:=lt_ Az A3.o.size;clear v0 v1 r0 r1 hB;obtain ⟨⟨A9,Aa,Ab,Ac⟩,Am⟩:=HX.o.call rfl;have A9:0<=xb:=A9;have Aa:xb<=4:=Aa;have Ab:xb<=xc:=Ab;have Ac:xc<=64:=Ac;have Aw:=h_ (opAt l xn=21) Am;obtain ⟨mb,AL,AC⟩:∃ mb:Nat,mb<=4/\xb=(mb:Int):=⟨xb.toNat,o_,o_⟩;obtain ⟨mc,AM,AD⟩:∃ mc:Nat,mc<=64/\xc=(mc:Int):=⟨xc.toNat,o_,o_⟩;subst AC AD;have AN:mb<=mc:=by omega
 clear A9 Aa Ab Ac Am;obtain ⟨i0,Al,Ao⟩:=Option.map_eq_some_iff.1 infoVa;simp only [Prod.mk.injEq] at Ao;obtain ⟨Ar,Aq,Ak⟩:=Ao;go_wp2_with fail;refine (frame_m wc H1.o hK o_).mono ?_;rintro e W2 ⟨⟨f,fn,rfl⟩,Y2,C2,h2,p2⟩;have H2:=q_ h2;have I2:=q_ (I1.o.up p2.1);have P2:=q_ (P1.o.trans p2 (fun j hj=>by constructor <;> omega));have x3:=h2.fr.cell (i:=0) rfl h2.pcs;have AF:b<W2:=h2.fr.blt (i:=0) rfl;clear h2 p2 y0 y1 y2 y3 y4;go_upto_region 16 with fail;go_cut [11] (fun v wx=>v=.slice (some (a_ W2)) 3 3/\Hid (OwT wx W2 38 valT Y2 (L+20) (some (a_ W2)) 3 3)/\Hid (Below W2 W2 wx))
 case first =>
  go_wp2_with fail;go_meet;exact ⟨rfl,q_ (OwT.vals (w:=W2) (X:=Y2) (K:=L+20) [⟨true,f⟩,⟨false,_⟩,⟨false,0⟩] (fun h=>Nat.lt_irrefl _ (H2.o.fr.lt _ h)) (by unfold maxLen;simp)),q_ ((b_).alloc (l_) _)⟩
 obtain ⟨rfl,hO,A1⟩:=hcut
 rename World=>w3
 have B3:=h_ (Below W2 W2 w3.drew) (Below.drew A1.o);have I3:=q_ (I2.o.up (Up.of_below A1.o));have AA:(C2 b).length=82:=H2.o.fr.len (i:=0) rfl;have F3:=q_ (H2.o.fr.call B3.o);obtain ⟨A4,c4,W4,Ap,O4,g4,l4⟩:=run_append_news (P:=prog) w3.drew W2 88 88 38 i0 _ 16 valT Y2 (L+20) underlying88 Al Ar Aq Ak rfl d_ _ 3 3 (hO.o.below (Below.drew (b_))) (f_ b 4) mb 16 (((C2 b).drop 4).take (mb*2))
  (by rw [List.length_take,List.length_drop,AA];show min (mb*2) (82 - 4)=mb*2;omega)
  (fun j u hu=>by rw [Addr.add_lit];exact (F3.o.box (i:=0) rfl).range 4 (mb*2) j u hu)
  (fun k j t hk hj=>by
   have AI:j<2:=(e_ hj).1
   have A2:k<16:=by omega
   rw [show k*valT.length+j=k*2+j from rfl,List.getElem?_take,if_pos o_,List.getElem?_drop]
   obtain rfl | rfl:j=0\/j=1:=by omega
   ·obtain ⟨bt,_,e1⟩:=F3.o.tru (i:=0) rfl (j:=4+k*2) (ao_ k A2).1 (as_ _ o_)
    obtain rfl:CT.tru=t:=by simpa [valT] using hj
    exact ⟨_,e1,.tru _⟩
   obtain ⟨bt,_,e1⟩:=F3.o.num (i:=0) rfl (j:=4+k*2+1) (ao_ k A2).2.1 (as_ _ o_)
   obtain rfl:CT.num=t:=by simpa [valT] using hj
   exact ⟨_,e1,.num _⟩)
  (fun u hu=>by
   obtain ⟨j,hj⟩:=List.getElem?_of_mem hu
   rw [List.getElem?_take] at hj
   split at hj
   ·rename_i hlt
    rw [List.getElem?_drop] at hj
    have Ae:∃ t,oneT[4+j]?=some t:=⟨_,ge_ (by show 4+j<82;omega)⟩
    obtain ⟨t,ht⟩:=Ae
    obtain ⟨v,e1,_,e2⟩:=F3.o.get (i:=0) rfl ht (as_ _ o_)
    rw [hj] at e1
    injection e1 with e1
    subst e1
    exact e2.one
   cases hj)
  (fun k hk=>F3.o.lt k hk) m_ o_ (Nat.le_trans A1.o.size (l_))
 have A0:=h_ (Below W2 W2 W4) (B3.o.trans (al_ g4 (by exact A1.o.size) (fun k hk=>by injection hk with hk;subst hk;exact l_)));have AO:IntKind.i64.wrap ((mc:Int) - (mb:Int))=((mc - mb:Nat):Int):=by rw [IntKind.wrap_i64];omega
 obtain ⟨A5,c5,W5,Af,O5,g5,l5⟩:=run_append_zeros_t (P:=prog) W4.drew W2 88 3 88 38 i0 _ 16 .i64 .i64 valT Y2 (L+20) underlying88 underlying3 Al Ar Aq Ak rfl rfl d_ A4 (3+mb) c4 (O4.below (Below.drew (b_))) (mc - mb) (fun k hk=>(H2.o.fr.call A0.o).lt k hk) m_ o_ A0.o.size;have A6:=h_ (Below W2 W2 W5) ((A0.o.drew).trans (al_ g5 A0.o.size (fun k hk=>(an_ O4.choose_spec.1 hk).1)));have An:3+mb+(mc - mb)=3+mc:=by omega
 rw [An] at Af O5;clear An;have HS:=q_ (O5.slT (fun k hk=>H2.o.fr.lt k hk) (show 3+mc<=L+20 by omega));have H5:=q_ (H2.o.call A6.o);have I5:=q_ (I2.o.up (Up.of_below A6.o));have P5:=q_ (P2.o.below A6.o);obtain ⟨nx,Ah,A7⟩:=H5.o.fr.num (i:=0) rfl (j:=37) rfl rfl;obtain ⟨oA,on,oc,AE,_,_⟩:=H5.o.fr.slc (i:=0) rfl (j:=74) (e:=objT) rfl rfl;have fb:=H5.o.fr.fz (i:=0) rfl;have Ad:b<W5:=H5.o.fr.blt (i:=0) rfl;have I4:=I2.o.up (Up.of_below A0.o);have Ai:=(H2.o.fr.call A0.o).cell (i:=0) rfl A7;have z2:=I3.o.cell (j:=2) rfl;have y2:=I4.cell (j:=2) rfl;have y3:=I4.cell (j:=3) rfl;have q2:=I5.o.cell (j:=2) rfl;have q3:=I5.o.cell (j:=3) rfl;have AB:(mb:Int)<=16:=by omega
 have As:=q_ A7;clear hO A1 O4 g4 l4 O5 g5 l5 I4 A7 x3;have hA:=H5.o.call ((Below.refl W5 W5).alloc (l_) (.cells #[i_ nx,.slice A5 (3+mc) c5] 90));have Aj:=SlT.lit1 (w:=W5) (X:=Y2) (K:=L+20) (e:=objT) (vs:=[i_ nx,.slice A5 (3+mc) c5]) (VTs.cons (.num _) (VTs.cons HS.o.vt VTs.nil)) 90 (fun h=>Nat.lt_irrefl _ (H5.o.fr.lt _ h)) o_;obtain ⟨h6,p6⟩:=(hA.raise (L':=L+20) o_).set (j:=74) (t:=.sl objT) rfl rfl d_ Aj.vt (fun hm=>cj_ hm ze_ ze_ ze_);have P6:=(P5.o.below ((Below.refl W5 W5).alloc (l_) (.cells #[i_ nx,.slice A5 (3+mc) c5] 90))).trans p6 (fun j hj=>o_);have E6:=p6.2.2 37 d_;have I6:=I5.o.up ((Up.of_below ((Below.refl W5 W5).alloc (l_) (.cells #[i_ nx,.slice A5 (3+mc) c5] 90))).trans p6.1);rw [World.setCell_alloc_past _ _ _ _ Ad] at h6 P6 I6;obtain ⟨U,hU⟩:=ex_ ((W5.setCell (f_ b 74) (.slice (some (a_ W5)) 1 1)).alloc (.cells #[i_ nx,.slice A5 (3+mc) c5] 90));rw [<-hU] at h6 P6 I6;have H6:=q_ h6;have Ax:=q_ P6;have Av:=q_ I6;have Au:=q_ (E6.trans As.o);clear hA Aj h6 p6 P6 E6 I6;go_upto_region 17 with fail;go_region_law (refine step_append_run rfl (.tmp 129) (.tmp 136) 88 88 rfl _ _ _ v_ v_ Ap ?_);all_goals
  clear Ap z2;go_upto_region 18 with fail;go_region_law (refine step_append_run rfl (.tmp 143) (.tmp 148) 88 3 rfl _ _ _ v_ v_ Af ?_);all_goals
   rw [<-hU];clear hU Af Ah Ai AE fb y2 y3 q2 q3;have Ah:=H6.o.fr.cell (i:=0) rfl Au.o;go_wp2_with fail;refine (ej_ U H6.o o_ 1 0 ⟨true,nx⟩).mono ?_;rintro e W7 ⟨rfl,Y7,C7,h7,p7⟩;have AK:(C7 b).length=82:=h7.fr.len (i:=0) rfl;have I7:=Av.o.up p7.1;have P7:=q_ (Ax.o.trans p7 (fun j hj=>by show j≠73;omega));have y4:=I7.cell (j:=4) rfl;obtain ⟨AR,AQ,_⟩:=h7.fr.num (i:=0) rfl (j:=39) rfl rfl;have fb:=h7.fr.fz (i:=0) rfl;obtain ⟨h8,p8⟩:=(h7.raise (L':=L+20+1) o_).set (j:=39) (t:=.num) (v:=i_ xn) rfl rfl d_ (.num _) (fun _=>mv_mark z0_ Aw.o);have H8:=q_ h8;have P8:=q_ (P7.o.trans p8 (fun j hj=>by show j≠39;omega));clear h7 p7 h8 p8 I7 Ah;go_wp2;exact tj_
end Go.Proofs.YtfolidlmgfhkiaaGreat
