/- Lemmas on functions of the program, under the conditions that each states. -/
import Derived.Test.YtfolidlmgfhkiaaGreatV26
set_option linter.unusedVariables false
set_option linter.unusedSimpArgs false
set_option maxRecDepth 100000
set_option maxHeartbeats 4000000
namespace Go.Proofs.YtfolidlmgfhkiaaGreat
open Go.RowKit Go.Proofs.Tryz
section
variable {X Z Y:NP} {w0 w:World} {LL:List LV} {b K L:Nat} {l:List In} {pc:Int} {C:Nat->VL}
theorem OneS.setRegs {vs:VL} (h:OneS X Z w0 LL b K L l pc Y C w) (hv:VTs w Y 0 regsT vs) :
  OneS X Z w0 LL b K L l pc Y (upd C b (splice (C b) 40 vs)) (w.setCells b 40 vs)/\Pr b (fun i=>i<40\/72<=i) w Y C (w.setCells b 40 vs) Y (upd C b (splice (C b) 40 vs)):=by
 obtain ⟨f,u⟩:=h.fr.part (i:=0) (o:=40) (N:=0) (us:=regsT) (vs:=vs) rfl rfl d_ hv (fun j h1 h2=>⟨Nat.zero_le _,by
  have:j<72:=h2
  show de_ j=none
  unfold de_
  rw [if_neg o_]⟩)
 have hl:(C b).length=82:=h.fr.len (i:=0) rfl;have A1:vs.length=32:=hv.1;have out:∀ i,i<40\/72<=i->(splice (C b) 40 vs)[i]?=(C b)[i]?:=fun i hi=>by
  unfold splice;have A0:((C b).take 40).length=40:=by rw [List.length_take,hl];decide
  rcases hi with hi | hi
  ·exact uo_
  rw [List.getElem?_append_right yi_,A0,List.getElem?_append_right (by rw [A1];omega),A1,List.getElem?_drop]
  congr 1;omega
 refine ⟨h.go f u (fun i hi=>?_) (fun hm=>?_),u,fun q hq _=>ad_ _ _ hq,fun i hi=>?_⟩
 ·rw [upd_same];exact out i o_
 ·rw [upd_same];exact ci_ hm (out _ o_) (out _ o_) (out _ o_)
 rw [upd_same];exact out i hi
end
def regs0:VL:=regsT.map CT.zero
theorem regs0_eq:regs0=zl4:=rfl
theorem isz_regs0:(prog.info? 60).map (·.size)=some regs0.length:=by kernel_rfl
theorem mark_m {X Z Y:NP} {w0:World} {LL:List LV} {b K L:Nat} {l:List In} {pc:Int} {C:Nat->VL} (w:World) (h:OneS X Z w0 LL b K L l pc Y C w) (x:In) (hop:x.op=21) :
  Calls prog 125 #[.pointer (some (a_ b)),.agg #[i_ x.op,i_ x.a,i_ x.b,i_ x.c,i_ x.n]] w fun e w'=>e=.returned (.bool true)/\∃ Y' C',OneS X Z w0 LL b K L l pc Y' C' w'/\Pr b (fun j=>j<38) w Y C w' Y' C'/\Hid ((C' b)[38]?=some (i_ 1)):=by
 obtain ⟨V,hV,A0,A1,W0⟩:=af_ w [i_ x.op,i_ x.a,i_ x.b,i_ x.c,i_ x.n] 202;have H0:=q_ (h.call A0);have I0:=h_ (Lc V Y w [i_ x.op,i_ x.a,i_ x.b,i_ x.c,i_ x.n]) (⟨W0,fun hy=>Nat.lt_irrefl _ (h.fr.lt _ hy)⟩);have P0:=q_ ((Pr.refl b (fun j=>j<38) w Y C).below A0);have A3:=h.fr.blt (i:=0) rfl;obtain ⟨op,xa,xb,xc,xn⟩:=x;have hop:op=21:=hop;subst hop;have v0:=W0.2.1 0 _ rfl;have A4:(w:Nat)<V:=by omega
 have A2:b<V:=by omega
 clear h A0 A1 W0;obtain ⟨h1,p1⟩:=H0.o.setRegs (vs:=regs0) (ax_ 0 regsT);have HT:=q_ (H0.o.fr.there (i:=0) rfl (o:=40) (n:=regs0.length) (show (40+32:Nat)<=82 by decide));have HO:=h_ (VTs V Y 0 regsT regs0) (ax_ 0 regsT);obtain ⟨U,hU⟩:=ex_ (V.setCells b 40 regs0);rw [<-hU] at h1 p1;have H1:=q_ h1;have P1:=q_ (P0.o.trans p1 (fun j hj=>.inl o_));have I1:=q_ (I0.o.up p1.1);clear h1 p1;go_enter func125,ntmps125;go_upto_region 1 with fail;rw [<-hV];clear hV;go_upto_region 24 with (with_reducible refine ab_ rfl 60 (.tmp 112) (.tmp 108) rfl regs0 w_ (by simp [Act.eval,Act.put,regs0_eq]) HT.o isz_regs0 HO.o.one ?_);rw [<-hU];clear hU v0;have y4:=I1.o.cell (j:=4) rfl;obtain ⟨k0,r0,_⟩:=H1.o.fr.num (i:=0) rfl (j:=38) rfl rfl;obtain ⟨k1,r1,_⟩:=H1.o.fr.num (i:=0) rfl (j:=77) rfl rfl;have fb:=H1.o.fr.fz (i:=0) rfl;have hl:∀ C':Nat->VL,(C' b).length=82->38<(C' b).length:=fun C' h=>by omega
 go_region_law fail;all_goals
  obtain ⟨h5,p5⟩:=(H1.o.call (Below.drew (b_))).set (j:=38) (t:=.num) (v:=i_ 1) rfl rfl d_ (.num _) (fun _=>mv_kind (kd:=1) (by rw [gs_,if_pos rfl,if_pos (by have:(upd C b (splice (C b) 40 regs0) b).length=82:=H1.o.fr.len (i:=0) rfl;omega)]) d_);obtain ⟨h6,p6⟩:=h5.set (j:=77) (t:=.num) (v:=i_ xn) rfl rfl d_ (.num _) (fun hm=>ci_ hm zo_ zo_ zo_);have P6:=q_ (((P1.o.below (Below.drew (b_))).trans p5 (fun j hj=>by show j≠38;omega)).trans p6 (fun j hj=>by show j≠77;omega));have H6:=q_ h6;go_wp2;go_ret;first
   | exact ⟨rfl,_,_,H6.o,P6.o,q_ (by
     rw [upd_same,gs_,if_neg d_,upd_same,gs_,if_pos rfl,if_pos (by have:(upd C b (splice (C b) 40 regs0) b).length=82:=H1.o.fr.len (i:=0) rfl;omega)])⟩
   | (have H7:=H6.o
      have P7:=P6.o
      rw [World.setCell_comm _ _ _ _ _ d_] at H7 P7
      exact ⟨rfl,_,_,H7,P7,q_ (by
     rw [upd_same,gs_,if_neg d_,upd_same,gs_,if_pos rfl,if_pos (by have:(upd C b (splice (C b) 40 regs0) b).length=82:=H1.o.fr.len (i:=0) rfl;omega)])⟩)
end Go.Proofs.YtfolidlmgfhkiaaGreat
