/- Lemmas on functions of the program, under the conditions that each states. -/
import Derived.Test.YtfolidlmgfhkiaaGreatY21
import Derived.Maps.OwnSet
import Derived.Maps.OwnOps
import Derived.Maps.Views
set_option linter.unusedVariables false
set_option linter.unusedSimpArgs false
set_option maxRecDepth 100000
set_option maxHeartbeats 8000000
namespace Go.Proofs.YtfolidlmgfhkiaaGreat
open Go.RowKit Go.Maps
/- A map of numbers that the call makes. -/
theorem lawInt:Keyed Tryz.prog 3:=int_keyed Tryz.underlying3
theorem zeroInt (w:World):(zeroValue 3).run Tryz.prog w=.ok (i_ 0) w:=by kernel_rfl
def IntMap (w:World) (b n:Nat):Prop:=∃ D:DataW Unit,w.ownsMap Tryz.prog 3 (plainElem Tryz.prog 3) b n D
theorem IntMap.made (w:World):IntMap (w.alloc (.map #[] 0)) w 0:=⟨_,World.ownsMap_made w _ _ _⟩
theorem IntMap.put {w:World} {b n:Nat} (h:IntMap w b n) (hn:n<maxLen) {k v:Int} (hk:(Lit.int .i64 k).wf=true) (hv:(Lit.int .i64 v).wf=true):∃ w',(Instr.mapUpdate 285 (.map (some b)) (i_ k) (i_ v)).run Tryz.prog w=.ok () w'/\IntMap w' b (n+1)/\w.grownBy w' (some b):=by
 obtain ⟨D,h⟩:=h;obtain ⟨w',hr,h1,h2⟩:=h.update lawInt Tryz.underlying285 hn (keyOf_int_mk Tryz.underlying3 hk) (plainElem_int Tryz.underlying3 hv);exact ⟨w',hr,⟨_,h1⟩,h2⟩
theorem IntMap.look {w:World} {b n:Nat} (h:IntMap w b n) {k:Int} (hk:(Lit.int .i64 k).wf=true):∃ c:Int,(Instr.lookup 285 (.map (some b)) (i_ k) false).run Tryz.prog w=.ok (i_ c) w:=by
 obtain ⟨D,h⟩:=h;obtain ⟨c,hr,_⟩:=h.lookup_int lawInt Tryz.underlying285 Tryz.underlying3 (zeroInt w) (keyOf_int_mk Tryz.underlying3 hk);exact ⟨c,hr⟩
/- append, its run at hand. -/
section
variable {P:Program} {w w':World} {ops:Array Oper} {o:Oper} {a:Act} {Q:Exit->Act->World->Prop}
theorem step_append_run {K0:Act->World->Prop} {E:Prop} (hgd:o.guard=none) (s x:Operand) (t tn:TypeId) (ho:o.op=.call { callee:=.builtin .append,args:=#[s,x],argTypes:=#[t,tn] }) (vs vx v':Value) (hs:a.eval s=vs) (hx:a.eval x=vx)
  (hr:(Builtin.append_ #[t,tn] o.type #[vs,vx]).run P w=.ok v' w') (h:K0 (a.put o.dst v') w'):if Region.wanted o (yielded ops a.tmps)=true then Oper.wp P o a w K0 Q else E:=by
 have hw:Region.wanted o (yielded ops a.tmps)=true:=by simp [Region.wanted,hgd]
 rw [if_pos hw];exact Lib.wp_append_run w s x t tn ho _ _ hs hx _ _ hr h
theorem run_append_news (w:World) (base:Nat) (t ty et:TypeId) (i:TypeInfo) (z:Value) (bytes:Nat) (e:List CT) (X:NP) (K:Nat) (ht:P.underlying t=some (.slice et)) (hi:P.info? et=some i) (hz:i.zero=some z)
  (hsize:i.size=e.length) (hby:i.bytes=bytes) (hzs:z.cells.size=e.length) (hsz:0<e.length)
  (A:OA) (n c:Nat) (hown:OwT w base et e X K A n c) (ad:Addr) (m d:Nat) (news:VL) (hl:news.length=m*e.length) (hnews:∀ (j:Nat) (u:Value),news[j]?=some u->w.cell? (ad.add j)=some u)
  (hv:∀ k j t,k<m->e[j]?=some t->∃ u,news[k*e.length+j]?=some u/\VT w (Wi X (Value.slice A n c).ownBlock) K t u) (h1:∀ u ∈ news,u.oneCell'=true)
  (hX:∀ k,X k->k<w) (h63:n+m<=maxLen) (hbytes:(n+m)*bytes<=140737488355328) (hbase:base<=w) :
  ∃ A' c' w',(Builtin.append_ #[t,t] ty #[.slice A n c,.slice (some ad) m d]).run P w=.ok (.slice A' (n+m) c') w'/\OwT w' base et e X K A' (n+m) c'/\w.grownBy w' (Value.slice A n c).ownBlock ∧
   (∀ g,(Value.slice A' (n+m) c').ownBlock=some g->(Value.slice A n c).ownBlock=some g\/g=w):=by
 obtain ⟨xs,o1,o2⟩:=hown;obtain ⟨A',c',w',hr,g1,g2,g3⟩:=dd_ (P:=P) w base t ty et i z e.length bytes ht hi hz hsize hby hzs hsz _ n xs o1 (some ad) m d news x_ hl (fun a ha j u hu=>by injection ha with ha;subst ha;exact hnews j u hu) h1 h63 hbytes hbase;exact ⟨A',c',w',hr,own_append ⟨xs,o1,o2⟩ ⟨o1,o2⟩ hl hv hX g1 g2 g3,g2,g3⟩
end
theorem OwT.vals {X:NP} {w:World} {K:Nat} (l:List Val) (hX:¬X w) (hn:l.length<=maxLen):OwT (w.alloc (.cells (l.flatMap Val.cells).toArray 38)) w 38 valT X K (some (a_ w)) l.length l.length:=by
 have hl:(l.flatMap Val.cells).length=l.length*valT.length:=by
  induction l with
  | nil=>rfl
  | cons x r ih=>rw [List.flatMap_cons,List.length_append,List.length_cons,ih (by simp at hn;omega)];simp [Val.cells,valT];omega
 refine ⟨l.flatMap Val.cells,⟨hl,.inr ⟨w,l.length,_,rfl,l_,heap_alloc_new w _,l_,hn,by simpa using hl,?_⟩⟩,fun k j t hk hj=>?_⟩
 ·rw [<-hl];exact List.take_length
 have hx:=ge_ (l:=l) (i:=k) hk;obtain ⟨u,hu,hv⟩:=(vts_val (w:=w.alloc (.cells (l.flatMap Val.cells).toArray 38)) (X:=Wi X (Value.slice (some (a_ w)) l.length l.length).ownBlock) (K:=K) (l[k]'hk)).2 j t hj;exact ⟨u,flat_get (sz:=2) (cells:=Val.cells) (fun _=>rfl) l k _ hx j u hu,hv⟩
end Go.Proofs.YtfolidlmgfhkiaaGreat
namespace Go.Proofs.YtfolidlmgfhkiaaGreat
open Go.RowKit Go.Proofs.Tryz
section
variable {X Z Y:NP} {w0 w:World} {LL:List LV} {b K L:Nat} {l:List In} {pc:Int} {C:Nat->VL}
theorem OneS.setRegs {vs:VL} (h:OneS X Z w0 LL b K L l pc Y C w) (hv:VTs w Y 0 regsT vs) :
  OneS X Z w0 LL b K L l pc Y (upd C b (splice (C b) 40 vs)) (w.setCells b 40 vs)/\Pr b (fun i=>i<40\/72<=i) w Y C (w.setCells b 40 vs) Y (upd C b (splice (C b) 40 vs)):=by
 obtain ⟨f,u⟩:=h.fr.part (i:=0) (o:=40) (N:=0) (us:=regsT) (vs:=vs) rfl rfl d_ hv (fun j h1 h2=>⟨Nat.zero_le _,by
  have:j<72:=h2
  show dj_ j=none
  unfold dj_
  rw [if_neg o_]⟩)
 have hl:(C b).length=82:=h.fr.len (i:=0) rfl;have A1:vs.length=32:=hv.1;have out:∀ i,i<40\/72<=i->(splice (C b) 40 vs)[i]?=(C b)[i]?:=fun i hi=>by
  unfold splice;have A0:((C b).take 40).length=40:=by rw [List.length_take,hl];decide
  rcases hi with hi | hi
  ·exact u0_
  rw [List.getElem?_append_right z9_,A0,List.getElem?_append_right (by rw [A1];omega),A1,List.getElem?_drop]
  congr 1;omega
 refine ⟨h.go f u (fun i hi=>?_) (fun hm=>?_),u,fun q hq _=>ad_ _ _ hq,fun i hi=>?_⟩
 ·rw [upd_same];exact out i o_
 ·rw [upd_same];exact cj_ hm (out _ o_) (out _ o_) (out _ o_)
 rw [upd_same];exact out i hi
end
def regs0:VL:=regsT.map CT.zero
theorem regs0_eq:regs0=zl4:=rfl
theorem isz_regs0:(prog.info? 60).map (·.size)=some regs0.length:=by kernel_rfl
theorem mark_m {X Z Y:NP} {w0:World} {LL:List LV} {b K L:Nat} {l:List In} {pc:Int} {C:Nat->VL} (w:World) (h:OneS X Z w0 LL b K L l pc Y C w) (x:In) (hop:x.op=21) :
  Calls prog 125 #[.pointer (some (a_ b)),.agg #[i_ x.op,i_ x.a,i_ x.b,i_ x.c,i_ x.n]] w fun e w'=>e=.returned (.bool true)/\∃ Y' C',OneS X Z w0 LL b K L l pc Y' C' w'/\Pr b (fun j=>j<38) w Y C w' Y' C'/\Hid ((C' b)[38]?=some (i_ 1)):=by
 obtain ⟨V,hV,A0,A1,W0⟩:=ag_ w [i_ x.op,i_ x.a,i_ x.b,i_ x.c,i_ x.n] 202;have H0:=q_ (h.call A0);have I0:=h_ (Lc V Y w [i_ x.op,i_ x.a,i_ x.b,i_ x.c,i_ x.n]) (⟨W0,fun hy=>Nat.lt_irrefl _ (h.fr.lt _ hy)⟩);have P0:=q_ ((Pr.refl b (fun j=>j<38) w Y C).below A0);have A3:=h.fr.blt (i:=0) rfl;obtain ⟨op,xa,xb,xc,xn⟩:=x;have hop:op=21:=hop;subst hop;have v0:=W0.2.1 0 _ rfl;have A4:(w:Nat)<V:=by omega
 have A2:b<V:=by omega
 clear h A0 A1 W0;obtain ⟨h1,p1⟩:=H0.o.setRegs (vs:=regs0) (bb_ 0 regsT);have HT:=q_ (H0.o.fr.there (i:=0) rfl (o:=40) (n:=regs0.length) (show (40+32:Nat)<=82 by decide));have HO:=h_ (VTs V Y 0 regsT regs0) (bb_ 0 regsT);obtain ⟨U,hU⟩:=ex_ (V.setCells b 40 regs0);rw [<-hU] at h1 p1;have H1:=q_ h1;have P1:=q_ (P0.o.trans p1 (fun j hj=>.inl o_));have I1:=q_ (I0.o.up p1.1);clear h1 p1;go_enter func125,ntmps125;go_upto_region 1 with fail;rw [<-hV];clear hV;go_upto_region 24 with (with_reducible refine ab_ rfl 60 (.tmp 112) (.tmp 108) rfl regs0 w_ (by simp [Act.eval,Act.put,regs0_eq]) HT.o isz_regs0 HO.o.one ?_);rw [<-hU];clear hU v0;have y4:=I1.o.cell (j:=4) rfl;obtain ⟨k0,r0,_⟩:=H1.o.fr.num (i:=0) rfl (j:=38) rfl rfl;obtain ⟨k1,r1,_⟩:=H1.o.fr.num (i:=0) rfl (j:=77) rfl rfl;have fb:=H1.o.fr.fz (i:=0) rfl;have hl:∀ C':Nat->VL,(C' b).length=82->38<(C' b).length:=fun C' h=>by omega
 go_region_law fail;all_goals
  obtain ⟨h5,p5⟩:=(H1.o.call (Below.drew (b_))).set (j:=38) (t:=.num) (v:=i_ 1) rfl rfl d_ (.num _) (fun _=>mv_kind (kd:=1) (by rw [gs_,if_pos rfl,if_pos (by have:(upd C b (splice (C b) 40 regs0) b).length=82:=H1.o.fr.len (i:=0) rfl;omega)]) d_);obtain ⟨h6,p6⟩:=h5.set (j:=77) (t:=.num) (v:=i_ xn) rfl rfl d_ (.num _) (fun hm=>cj_ hm zr_ zr_ zr_);have P6:=q_ (((P1.o.below (Below.drew (b_))).trans p5 (fun j hj=>by show j≠38;omega)).trans p6 (fun j hj=>by show j≠77;omega));have H6:=q_ h6;go_wp2;go_ret;first
   | exact ⟨rfl,_,_,H6.o,P6.o,q_ (by
     rw [upd_same,gs_,if_neg d_,upd_same,gs_,if_pos rfl,if_pos (by have:(upd C b (splice (C b) 40 regs0) b).length=82:=H1.o.fr.len (i:=0) rfl;omega)])⟩
   | (have H7:=H6.o
      have P7:=P6.o
      rw [World.setCell_comm _ _ _ _ _ d_] at H7 P7
      exact ⟨rfl,_,_,H7,P7,q_ (by
     rw [upd_same,gs_,if_neg d_,upd_same,gs_,if_pos rfl,if_pos (by have:(upd C b (splice (C b) 40 regs0) b).length=82:=H1.o.fr.len (i:=0) rfl;omega)])⟩)
def en_:List CT:=[.sl objT] ++ cpuT ++ [.num,.num,.sl actT,.tru,.tru,.tru,.num,.num]
theorem isz_140:(prog.info? 140).map (·.size)=some en_.length:=by kernel_rfl
def RState (X:NP) (K:Nat) (e:Ending) (w:World):Prop:=∃ (us:VL) (ev:Int),e=.returned (.tuple #[.agg us.toArray,i_ ev])/\VTs w X K en_ us
def ez_:VL:=[.slice none 0 0,i_ 0,.bool false,i_ 0,.bool false,i_ 0,.bool false,i_ 0,.bool false,i_ 0,.bool false,i_ 0,.bool false,i_ 0,.bool false,i_ 0,.bool false,i_ 0,.bool false,i_ 0,.bool false,i_ 0,.bool false,i_ 0,.bool false,i_ 0,.bool false,i_ 0,.bool false,i_ 0,.bool false,i_ 0,.bool false,i_ 0,i_ 0,i_ 0,.slice none 0 0,.bool false,.bool false,.bool false,i_ 0,i_ 0]
theorem er_ {X:NP} {w:World} {K:Nat}:VTs w X K en_ ez_:=bb_ K en_
theorem isz_zeroState:(prog.info? 140).map (·.size)=some ez_.length:=isz_140
def stNew (g:Nat):VL:=[.slice (some (a_ g)) 2 2,i_ 0,.bool false,i_ 0,.bool false,i_ 0,.bool false,i_ 0,.bool false,i_ 0,.bool false,i_ 0,.bool false,i_ 0,.bool false,i_ 0,.bool false,i_ 0,.bool false,i_ 0,.bool false,i_ 0,.bool false,i_ 0,.bool false,i_ 0,.bool false,i_ 0,.bool false,i_ 0,.bool false,i_ 0,.bool false,i_ 0,i_ 3,i_ 0,.slice none 0 0,.bool false,.bool false,.bool false,i_ 0,i_ 0]
theorem isz_stNew (g:Nat):(prog.info? 140).map (·.size)=some (stNew g).length:=isz_140
theorem vts_stNew {X:NP} {w:World} {K g:Nat} (h:SlT w X K objT (some (a_ g)) 2 2):VTs w X K en_ (stNew g) :=
 (er_.set (j:=0) (t:=.sl objT) rfl h.vt).set (j:=34) (t:=.num) rfl (.num 3)
theorem ret_state {X:NP} {w0 w:World} {L:List LV} {Y:NP} {C:Nat->VL} {i b N:Nat} {us:VL} (F:Fr X (fun _=>False) w0 L Y C w) (hp:L[i]?=some ⟨b,fun _=>N,en_,noOw⟩) (hv:VTs w Y N en_ us) (ev:Int) :
  (∃ f2:Fr X (fun _=>False) w0 L Y (upd C b us) (w.setCells b 0 us),True)/\RState X N (.returned (.tuple #[.agg (upd C b us b).toArray,i_ ev])) (w.setCells b 0 us)/\Below w0 w0 (w.setCells b 0 us):=by
 exact uc_
theorem wpList_make_t {P:Program} {w:World} {ops:Array Oper} {rest:List Oper} {o:Oper} {a:Act} {Q:Exit->Act->World->Prop} (hg:o.guard=none) (l c:Operand) (t et:TypeId) (hop:o.op=Op.makeSlice t l c) (base:Nat) (i:TypeInfo) (z:Value) (bytes:Nat) (kl kc:IntKind) (e:List CT) (X:NP) (K:Nat) (ht:P.underlying t=some (.slice et)) (hi:P.info? et=some i) (hz:i.zero=some z)
  (hsize:i.size=e.length) (hby:i.bytes=bytes) (hzc:z.cells=(e.map CT.zero).toArray) (hzk:e.all CT.zok=true) (hsz:0<e.length) (L C:Int) (m:Nat) (hl:a.eval l=.int kl L) (hc:a.eval c=.int kc C) (hL:L=(m:Int)) (hC:C=(m:Int)) (hX:∀ k,X k->k<w) (h63:m<=maxLen) (hbytes:bytes*m<=281474976710656) (hbase:base<=w)
  (h:∀ w',OwT w' base et e X K (some (a_ w)) m m->Below w w w'->wpList P ops Q rest (a.put o.dst (.slice (some (a_ w)) m m)) w'):wpList P ops Q (o :: rest) a w:=by
 refine wpList_plain hg fun K' A1=>?_
 obtain ⟨w',A0,r1,r2⟩:=run_make_t (P:=P) w base t et i z bytes kl kc e X K ht hi hz hsize hby hzc hzk hsz m hX h63 hbytes hbase;subst hL hC;unfold Oper.wp;simp [execOp,hop,hl,hc,A0,Result.andThen];exact A1 _ _ (h w' r1 r2)
theorem wpList_make_val {w:World} {ops:Array Oper} {rest:List Oper} {o:Oper} {a:Act} {Q:Exit->Act->World->Prop} (hg:o.guard=none) (l c:Operand) (hop:o.op=Op.makeSlice 88 l c) (base:Nat) (X:NP) (K:Nat)
  (L C:Int) (m:Nat) (hl:a.eval l=i_ L) (hc:a.eval c=i_ C) (hL:L=(m:Int)) (hC:C=(m:Int)) (hX:∀ k,X k->k<w) (h63:m<=1000) (hbase:base<=w)
  (h:∀ w',OwT w' base 38 valT X K (some (a_ w)) m m->Below w w w'->wpList prog ops Q rest (a.put o.dst (.slice (some (a_ w)) m m)) w'):wpList prog ops Q (o :: rest) a w:=by
 obtain ⟨i0,A2,A0⟩:=Option.map_eq_some_iff.1 infoVa;simp only [Prod.mk.injEq] at A0;obtain ⟨A4,A3,A1⟩:=A0;exact wpList_make_t hg l c 88 38 hop base i0 _ 16 .i64 .i64 valT X K underlying88 A2 A4 A3 A1 rfl rfl d_ L C m hl hc hL hC hX m_ o_ hbase h
theorem own_fresh {w:World} {base:Nat} {et:TypeId} {e:List CT} {X:NP} {K m c g:Nat} (h:OwT w base et e X K (some (a_ g)) m c) (k j:Nat) {t:CT} (hk:k<m) (hj:e[j]?=some t):(∃ u,w.cell? ⟨g,k*e.length+j,none⟩=some u)/\∀ q,w.frozen? (f_ g q)=false:=by
 obtain ⟨xs,ho,hx⟩:=h;obtain ⟨u,hu,_⟩:=hx k j t hk hj;have A1:j<e.length:=(e_ hj).1;have A0:k*e.length+j<m*e.length:=by
  exact ue_
 exact ⟨⟨u,wz_⟩,fun q=>ho.frozenAt q⟩
theorem Start_t (X:NP) (K:Nat) (A:OA) (n c:Nat) (v s:Int) (l:List In) (w:World) (hco:SlT w X K ay_ A n c) (hl:Sl w w 5 In.cells A n l) (hK:K<=900000000) (hX:∀ k,X k->k<w) :
  Calls prog 71 #[.agg #[.slice A n c,i_ v,i_ s]] w fun e w'=>RState X 100 e w'/\Below w w w':=by
 have Aq:=hco.le;obtain ⟨W,Y,C,hW,hz,U,F,c0,c1⟩:=Fr.start2 hX K [.sl ay_,.num,.num] [.slice A n c,i_ v,i_ s] 26 (VTs.cons hco.vt (VTs.cons (.num _) (VTs.cons (.num _) VTs.nil))) 100 en_ ez_ 140 er_;have C0:=q_ c0;have HL:=q_ (hl.go hco U);have HF:=q_ F;have x0:=F.cell (i:=1) rfl (j:=0) y6_;have x1:=F.cell (i:=1) rfl (j:=1) y6_;have x2:=F.cell (i:=1) rfl (j:=2) y6_;have A8:W=(w.alloc (.cells #[.slice A n c,i_ v,i_ s] 26)).alloc (.cells zl2.toArray 140):=hW;clear hco hl hX U F c0 c1 hW;go_enter func71,ntmps71;go_upto_region 1 with fail;rw [<-A8];clear A8;go_wp2_with fail;refine (ValidV_any A n c v s l W HL.o o_).mono ?_;rintro e W1 ⟨⟨vb,rfl,hv⟩,hB⟩;have F1:=q_ (HF.o.call hB);have BR:=q_ (F1.o.box (i:=0) rfl);have LR:=q_ (F1.o.len (i:=0) rfl);have HZ:=h_ (VTs W1 Y 100 en_ ez_) er_;have HV:=q_ hv;clear hB x0 x1 x2 hv;cases vb
 case false =>
  go_wp2_with (with_reducible refine ab_ rfl 140 (.tmp 2) (.tmp 9) rfl ez_ w_ (by simp [Act.eval,Act.put,ez_]) (BR.o.aj_ LR.o d_) isz_zeroState HZ.o.one ?_);obtain ⟨⟨f2,_⟩,hr⟩:=ret_state F1.o (i:=0) rfl HZ.o 1;exact th_
 obtain ⟨⟨_,_⟩,Au,Av⟩:=HV.o rfl;obtain ⟨vn,rfl⟩:∃ vn:Nat,v=vn:=⟨v.toNat,o_⟩;have Aw:(w:Nat)+1<W1:=F1.o.blt (i:=0) rfl;go_upto_region 3 with fail;go_cut [4] (fun p wx=>∃ q g:Nat,p=.pointer (some (a_ q))/\W1<=g/\g<q/\Hid (Bx wx q [i_ 1,.slice (some (a_ g)) 3 3])/\Hid (OwT wx W1 38 valT Y 100 (some (a_ g)) 3 3)/\Hid (Below W1 W1 wx))
 case first =>
  go_wp2_with (with_reducible refine wpList_make_val rfl _ _ rfl W1 Y 100 3 3 3 zb_ zb_ o_ o_ (fun k hk=>F1.o.lt k hk) o_ o_ ?_;intro w4 o4 b4;have O4:=q_ o4;have B4:=q_ b4;have z4:=b4.size;clear o4 b4);go_meet;exact ⟨_,W1,rfl,l_,by obtain ⟨xs,ho,_⟩:=O4.o;exact (an_ ho rfl).2,q_ (Bx.new w4 [i_ 1,.slice (some (a_ W1)) 3 3] 90),q_ (O4.o.below ((b_).alloc (l_) _)),q_ (B4.o.alloc z4 _)⟩
 rename World=>W2
 obtain ⟨q,g,rfl,hg,Ap,A2,A3,Aj⟩:=hcut;have As:q<W2:=A2.o.1;obtain ⟨⟨u0,y0⟩,fy⟩:=own_fresh A3.o 0 0 o_ rfl;obtain ⟨⟨u1,y1⟩,_⟩:=own_fresh A3.o 0 1 o_ rfl;simp only [Nat.zero_mul,Nat.zero_add] at y0 y1;have r1:=A2.o.2.1 1 _ rfl;obtain ⟨U,hU⟩:=ex_ ((W2.setCell (a_ g) (.bool true)).setCell (f_ g 1) (i_ 2));have OU:=q_ (show OwT U W1 38 valT Y 100 (some (a_ g)) 3 3 from by
  rw [hU]
  exact (A3.o.set (k:=0) (j:=0) (t:=.tru) (u:=.bool true) o_ rfl (.tru _) _ rfl).set (k:=0) (j:=1) (t:=.num) (u:=i_ 2) o_ rfl (.num _) _ rfl)
 have BU:=h_ (Bx U q [i_ 1,.slice (some (a_ g)) 3 3]) (by rw [hU];exact (A2.o.far (by show g≠q;omega) _).far (by show g≠q;omega) _);have bU:=h_ (Below W1 W1 U) (by rw [hU];exact (Aj.o.setCell (by exact hg) _).setCell (by exact hg) _);have Ar:q<U:=BU.o.1;go_upto_region 5 with fail;rw [<-hU];clear hU y0 y1 fy r1;have x1:U.cell? (f_ w 1)=some (i_ (vn:Int)):=(F1.o.call bU.o).cell (i:=1) rfl zz_;go_upto_region 6 with (with_reducible refine wpList_make_val rfl (.tmp 18) (.tmp 18) rfl W1 Y 100 (3+(vn:Int)) (3+(vn:Int)) (3+vn) zb_ zb_ o_ o_ (fun k hk=>lt_ (F1.o.lt k hk) bU.o.size) o_ bU.o.size ?_;intro w4 o4 b4;have O4:=q_ o4;have B4:=q_ b4;clear o4 b4 x1);obtain ⟨V,hV,A9,Ai,BV⟩:=ag_ w4 [i_ 2,.slice (some (a_ U)) (3+vn) (3+vn)] 90;rw [<-hV];clear hV;have OV:=q_ (O4.o.below A9);have Ah:=B4.o.size;have A4:Below U U V:=B4.o.trans (A9.mono Ah);have Af:=q_ (OU.o.below A4);have Ab:=q_ (BU.o.below A4);have bV:=q_ (bU.o.trans (A4.mono bU.o.size));have Ac:=q_ BV;clear Ai;have Al:(U:Nat)<w4:=by
  obtain ⟨xs,ho,_⟩:=O4.o;exact (an_ ho rfl).2
 obtain ⟨⟨u0,y0⟩,fy⟩:=own_fresh OV.o 0 0 o_ rfl;obtain ⟨⟨u1,y1⟩,_⟩:=own_fresh OV.o 0 1 o_ rfl;simp only [Nat.zero_mul,Nat.zero_add] at y0 y1;have r1:=BV.2.1 1 _ rfl;have Ag:(0:Int)<((3+vn:Nat):Int):=by omega
 obtain ⟨T,hT⟩:=ex_ ((V.setCell (a_ U) (.bool true)).setCell (f_ U 1) (i_ 0));have OT:=q_ (show OwT T W1 38 valT Y 100 (some (a_ U)) (3+vn) (3+vn) from by
  rw [hT]
  exact (OV.o.set (k:=0) (j:=0) (t:=.tru) (u:=.bool true) o_ rfl (.tru _) _ rfl).set (k:=0) (j:=1) (t:=.num) (u:=i_ 0) o_ rfl (.num _) _ rfl)
 have hne:U≠q:=by omega
 have A1:(U:Nat)≠w4:=by omega
 have A7:=h_ (Bx T q [i_ 1,.slice (some (a_ g)) 3 3]) (by rw [hT];exact (Ab.o.far hne _).far hne _);have A6:=h_ (Bx T w4 [i_ 2,.slice (some (a_ U)) (3+vn) (3+vn)]) (by rw [hT];exact (Ac.o.far A1 _).far A1 _);have A0:(W1:Nat)<=U:=bU.o.size;have bT:=h_ (Below W1 W1 T) (by rw [hT];exact (bV.o.setCell (by exact A0) _).setCell (by exact A0) _);have Ae:=q_ (show OwT T W1 38 valT Y 100 (some (a_ g)) 3 3 from by
  have Ak:g≠U:=by omega
  have An:V.grownBy T (some U):=by
   rw [hT]
   have hk:Kp (fun k=>k=U) V ((V.setCell (a_ U) (.bool true)).setCell (f_ U 1) (i_ 0)):=((Kp.refl (fun k=>k=U) V).setCell (p:=(a_ U)) (.inl rfl) _).setCell (p:=(f_ U 1)) (.inl rfl) _
   exact ⟨hk.os,hk.tape,hk.output,hk.size,fun k Ao hne=>hk.block k Ao (fun e=>hne xy_)⟩
  obtain ⟨xs,ho,hx⟩:=Af.o
  refine ⟨xs,ho.kept An (.inr (fun e=>by injection e with e;exact Ak e)),fun k j t hk hj=>?_⟩
  obtain ⟨u,hu,hv⟩:=hx k j t hk hj
  refine ⟨u,hu,?_⟩
  have Am:j<2:=(e_ hj).1
  match j,Am,hj with
  | 0,_,hj=>injection hj with hj;subst hj;obtain ⟨x,rfl⟩:=hv.bool;exact .tru _
  | 1,_,hj=>injection hj with hj;subst hj;obtain ⟨x,rfl⟩:=hv.int;exact .num _)
 go_upto_region 7 with fail;rw [<-hT];clear hT y0 y1 fy r1;have t0:=A7.o.2.1 0 _ rfl;have t1:=A7.o.2.1 1 _ rfl;have s0:=A6.o.2.1 0 _ rfl;have s1:=A6.o.2.1 1 _ rfl;have F7:=q_ (F1.o.call (bT.o.alloc bT.o.size (.cells #[i_ 1,.slice (some (a_ g)) 3 3,i_ 2,.slice (some (a_ U)) (3+vn) (3+vn)] 90)));have BR:=q_ (F7.o.box (i:=0) rfl);have LR:=q_ (F7.o.len (i:=0) rfl);have Ad:=h_ ((stNew T).length<=en_.length) (Nat.le_refl 42);have US:=q_ (show VTs (T.alloc (.cells #[i_ 1,.slice (some (a_ g)) 3 3,i_ 2,.slice (some (a_ U)) (3+vn) (3+vn)] 90)) Y 100 en_ (stNew T) from by
  have A5:∀ k,Y k->k<W1:=fun k hk=>F1.o.lt k hk
  have Aa:Kp Y T (T.alloc (.cells #[i_ 1,.slice (some (a_ g)) 3 3,i_ 2,.slice (some (a_ U)) (3+vn) (3+vn)] 90)):=(Kp.refl _ _).alloc _
  have s1:=(Ae.o.slT A5 o_).up Aa (l_)
  have s2:=(OT.o.slT A5 o_).up Aa (l_)
  have hb:=Bx.new T [i_ 1,.slice (some (a_ g)) 3 3,i_ 2,.slice (some (a_ U)) (3+vn) (3+vn)] 90
  exact vts_stNew (SlP.two (p:=fun _=>True) (us:=[i_ 1,.slice (some (a_ g)) 3 3]) (vs:=[i_ 2,.slice (some (a_ U)) (3+vn) (3+vn)]) hb (fun hy=>by have:=A5 _ hy;have:=bT.o.size;omega) o_ (VTs.cons (.num _) (VTs.cons s1.vt VTs.nil)) trivial (VTs.cons (.num _) (VTs.cons s2.vt VTs.nil)) trivial).sl)
 go_wp2_with (with_reducible refine ab_ rfl 140 (.tmp 2) (.tmp 29) rfl (stNew T) w_ (by simp [Act.eval,Act.put,stNew]) (BR.o.aj_ LR.o Ad.o) (isz_stNew _) US.o.one ?_);obtain ⟨⟨f2,_⟩,hr⟩:=ret_state F7.o (i:=0) rfl US.o 0;exact th_
theorem rest_store {X Z Y:NP} {w0:World} {LL:List LV} {b K L:Nat} {l:List In} {pc:Int} {C:Nat->VL} (w:World) (h:OneS X Z w0 LL b K L l pc Y C w) (hK:K<=1000000000) (hL:100<=L/\L<=9000) (i:Nat) (x:In) (hpc:pc=(i:Int)) (hx:OkI l i x) (hop:x.op=6) :
  Calls prog 127 #[.pointer (some (a_ b)),.agg #[i_ x.op,i_ x.a,i_ x.b,i_ x.c,i_ x.n]] w fun e w'=>e=.returned (.tuple #[])/\Ms X Z w0 LL b K (L+30) l pc Y C w w' (fun j=>j<38):=by
 subst hpc;obtain ⟨V,hV,A1,A4,W0⟩:=ag_ w [i_ x.op,i_ x.a,i_ x.b,i_ x.c,i_ x.n] 202;have H0:=q_ (h.call A1);have I0:=h_ (Lc V Y w [i_ x.op,i_ x.a,i_ x.b,i_ x.c,i_ x.n]) (⟨W0,fun hy=>Nat.lt_irrefl _ (h.fr.lt _ hy)⟩);have P0:=q_ ((Pr.refl b (fun j=>j<38) w Y C).below A1);have HX:=q_ hx;have A9:=h.fr.blt (i:=0) rfl;obtain ⟨k,hk,A2⟩:∃ k:Nat,k<16/\x.a=(k:Int):=⟨x.a.toNat,zl_,zl_⟩;obtain ⟨op,xa,xb,xc,xn⟩:=x;have A2:xa=(k:Int):=A2;subst A2;have hop:op=6:=hop;subst hop;have v0:=W0.2.1 0 _ rfl;have v1:=W0.2.1 1 _ rfl;have Ab:(w:Nat)<V:=by omega
 have A5:b<V:=by omega
 clear h A1 A4 W0 hx;go_enter func127,ntmps127;go_upto_region 1 with fail;rw [<-hV];clear hV;have Aa:(k:Int)<16:=by omega
 obtain ⟨rt,r0,_⟩:=H0.o.fr.tru (i:=0) rfl (j:=4+k*2) (ao_ k hk).1 (as_ _ o_);obtain ⟨rn,r1,_⟩:=H0.o.fr.num (i:=0) rfl (j:=4+k*2+1) (ao_ k hk).2.1 (as_ _ o_);go_cut [4] (fun p wx=>∃ q:Nat,p=.pointer (some (a_ q))/\V<=q/\Hid (Bx wx q [.bool rt,i_ rn])/\Hid (Below V V wx))
 case first =>
  exact cuF
 obtain ⟨q,rfl,hq,hB,A0⟩:=hcut;have H1:=q_ (H0.o.call A0.o);have I1:=q_ (I0.o.up (Up.of_below A0.o));have P1:=q_ (P0.o.below A0.o);have Q1:=h_ (Lc wc Y q [.bool rt,i_ rn]) (⟨hB.o,fun hy=>by have:=H0.o.fr.lt _ hy;omega⟩);have y0:=I1.o.cell (j:=0) rfl;have y1:=I1.o.cell (j:=1) rfl;have y2:=I1.o.cell (j:=2) rfl;have y3:=I1.o.cell (j:=3) rfl;have y4:=I1.o.cell (j:=4) rfl;have A8:b<wc:=lt_ A5 A0.o.size;clear v0 v1 r0 r1 hB;obtain ⟨kb,A3,A7⟩:∃ kb:Nat,kb<16/\xb=(kb:Int):=⟨xb.toNat,xl_,xl_⟩;subst A7;have A6:(kb:Int)<16:=by omega
 obtain ⟨st,s0,_⟩:=H1.o.fr.tru (i:=0) rfl (j:=4+kb*2) (ao_ kb A3).1 (as_ _ o_);obtain ⟨sn,s1,_⟩:=H1.o.fr.num (i:=0) rfl (j:=4+kb*2+1) (ao_ kb A3).2.1 (as_ _ o_);have B1:=h_ (Below wc wc wc.drew) (Below.drew (b_));go_upto_region 8 with fail;go_region_law (go_simp;go_at_call 178;refine (object_m wc.drew (H1.o.call B1.o) hK o_ ⟨st,sn⟩ xn).mono ?_;rintro e W2 ⟨⟨f,ok,rfl⟩,hM⟩;have HM:=q_ hM;clear hM s0 s1 y0 y1 y2 y3 y4);all_goals
  obtain ⟨Y2,C2,h2,p2⟩:=HM.o;have H2:=q_ h2;have I2:=q_ ((I1.o.up (Up.of_below B1.o)).up p2.1);have Q2:=q_ ((Q1.o.up (Up.of_below B1.o)).up p2.1);have P2:=q_ ((P1.o.below B1.o).trans p2 (fun j hj=>.inl hj));have y1:=I2.o.cell (j:=1) rfl;have y4:=I2.o.cell (j:=4) rfl;have q0:=Q2.o.cell (j:=0) rfl;have q1:=Q2.o.cell (j:=1) rfl;clear h2 p2 HM;cases ok
  case false =>
   exact uk_
  go_wp2_with (go_at_call 173;refine (ej_ W2 H2.o o_ f xn ⟨rt,rn⟩).mono ?_;rintro e W3 ⟨rfl,hM⟩;have HM:=q_ hM;clear hM);exact u6_
theorem rest_result {X Z Y:NP} {w0:World} {LL:List LV} {b K L:Nat} {l:List In} {pc:Int} {C:Nat->VL} (w:World) (h:OneS X Z w0 LL b K L l pc Y C w) (hK:K<=1000000000) (hL:100<=L/\L<=9000) (i:Nat) (x:In) (hpc:pc=(i:Int)) (hx:OkI l i x) (hop:x.op=15) :
  Calls prog 127 #[.pointer (some (a_ b)),.agg #[i_ x.op,i_ x.a,i_ x.b,i_ x.c,i_ x.n]] w fun e w'=>e=.returned (.tuple #[])/\Ms X Z w0 LL b K (L+30) l pc Y C w w' (fun j=>j<38):=by
 subst hpc;obtain ⟨V,hV,A6,Aj,W0⟩:=ag_ w [i_ x.op,i_ x.a,i_ x.b,i_ x.c,i_ x.n] 202;have H0:=q_ (h.call A6);have I0:=h_ (Lc V Y w [i_ x.op,i_ x.a,i_ x.b,i_ x.c,i_ x.n]) (⟨W0,fun hy=>Nat.lt_irrefl _ (h.fr.lt _ hy)⟩);have P0:=q_ ((Pr.refl b (fun j=>j<38) w Y C).below A6);have HX:=q_ hx;have Au:=h.fr.blt (i:=0) rfl;obtain ⟨k,hk,A7⟩:∃ k:Nat,k<16/\x.a=(k:Int):=⟨x.a.toNat,zl_,zl_⟩;obtain ⟨op,xa,xb,xc,xn⟩:=x;have A7:xa=(k:Int):=A7;subst A7;have hop:op=15:=hop;subst hop;have v0:=W0.2.1 0 _ rfl;have v1:=W0.2.1 1 _ rfl;have Az:(w:Nat)<V:=by omega
 have Ak:b<V:=by omega
 clear h A6 Aj W0 hx;go_enter func127,ntmps127;go_upto_region 1 with fail;rw [<-hV];clear hV;have Av:(k:Int)<16:=by omega
 obtain ⟨rt,r0,_⟩:=H0.o.fr.tru (i:=0) rfl (j:=4+k*2) (ao_ k hk).1 (as_ _ o_);obtain ⟨rn,r1,_⟩:=H0.o.fr.num (i:=0) rfl (j:=4+k*2+1) (ao_ k hk).2.1 (as_ _ o_);go_cut [4] (fun p wx=>∃ q:Nat,p=.pointer (some (a_ q))/\V<=q/\Hid (Bx wx q [.bool rt,i_ rn])/\Hid (Below V V wx))
 case first =>
  exact cuF
 obtain ⟨q,rfl,hq,hB,A2⟩:=hcut;have H1:=q_ (H0.o.call A2.o);have I1:=q_ (I0.o.up (Up.of_below A2.o));have P1:=q_ (P0.o.below A2.o);have Q1:=h_ (Lc wc Y q [.bool rt,i_ rn]) (⟨hB.o,fun hy=>by have:=H0.o.fr.lt _ hy;omega⟩);have y0:=I1.o.cell (j:=0) rfl;have y1:=I1.o.cell (j:=1) rfl;have y2:=I1.o.cell (j:=2) rfl;have y3:=I1.o.cell (j:=3) rfl;have y4:=I1.o.cell (j:=4) rfl;have As:b<wc:=lt_ Ak A2.o.size;clear v0 v1 r0 r1 hB;go_wp2_with fail;refine (root_m wc H1.o hK).mono ?_;rintro e W2 ⟨rfl,Y2,C2,h2,p2⟩;have H2:=q_ h2;have I2:=q_ (I1.o.up p2.1);have P2:=q_ (P1.o.trans p2 (fun j hj=>by show j≠81;omega));obtain ⟨bk,Al,_⟩:=h2.fr.tru (i:=0) rfl (j:=81) rfl rfl;clear h2 p2 y0 y1 y2 y3 y4;cases bk
 case true =>
  exact uk_
 have KS:=h_ (∀ w',Below W2 W2 w'->(w'.cell? (a_ w)=some (i_ 15)/\w'.cell? (f_ w 1)=some (i_ (k:Int)))) (fun w' hb=>⟨(I2.o.up (Up.of_below hb)).cell rfl,(I2.o.up (Up.of_below hb)).cell rfl⟩);have Ay:=@run_makeMap prog;have Ag:K<=1000000000:=hK;have A5:IntMap ((W2.alloc (.map #[] 0)).drew) W2 0:=IntMap.made W2.drew;have BM:=h_ (Below W2 W2 ((W2.alloc (.map #[] 0)).drew)) ((Below.drew (b_)).alloc (l_) _);obtain ⟨Am,Ao,A8,Ac⟩:=A5.put (k:=15) (v:=1) m_ d_ d_;obtain ⟨Ah,Ap,A9,Ad⟩:=A8.put (k:=18) (v:=2) m_ d_ d_;obtain ⟨lA,Aw⟩:=A9.look (k:=15) d_;have A3:=q_ (BM.o.trans (al_ Ac t_ (fun k hk=>by injection hk with hk;omega)));have A0:=q_ (A3.o.trans (al_ Ad A3.o.size (fun k hk=>by injection hk with hk;omega)));clear A8 A9 Ac Ad;obtain ⟨An,Aq,Aa,Ae⟩:=A5.put (k:=18) (v:=2) m_ d_ d_;obtain ⟨Ai,Ar,Ab,Af⟩:=Aa.put (k:=15) (v:=1) m_ d_ d_;obtain ⟨lB,Ax⟩:=Ab.look (k:=15) d_;have A4:=q_ (BM.o.trans (al_ Ae t_ (fun k hk=>by injection hk with hk;omega)));have A1:=q_ (A4.o.trans (al_ Af A4.o.size (fun k hk=>by injection hk with hk;omega)));clear Aa Ab Ae Af;clear A5;go_upto_region 37 with fail;clear Al;refine am_ (S:=fun w':World=>w'.cell? (a_ w)=some (i_ 15)/\w'.cell? (f_ w 1)=some (i_ (k:Int))) rfl (KS.o _ (Below.drew (b_))) (fun _=>?_);go_simp;refine aa_ 0 253 ?_;refine aa_ 1 254 ?_;refine aa_ 2 255 ?_;refine aa_ 3 256 ?_;refine aa_ 8 259 ?_;refine aa_ 9 260 ?_;refine aa_ 12 263 ?_;refine aa_ 13 264 ?_;refine aa_ 14 265 ?_;refine aa_ 15 266 ?_;refine aw_ 4 k_ rfl (fun K hK=>?_);go_simp;refine hK.out _ _ (KS.o _ BM.o) (fun _=>?_);try simp only [Act.put,sA,s0,s1]
 refine wpAnyH_ready (rs:=[5,6]) k_ t_ (AllReadyH.cons rfl (fun K hK=>?_) (AllReadyH.cons rfl (fun K hK=>?_) AllReadyH.nil))
 ·go_simp;refine hK.out _ _ (KS.o _ A3.o) (fun _=>?_);refine au_ 6 fun K hK=>?_
  go_simp;refine hK.out _ _ (KS.o _ A0.o) (fun _=>?_);refine aa_ 7 258 ?_;refine aw_ 10 k_ rfl (fun K hK=>?_);go_simp;refine hK.out _ _ (KS.o _ A0.o) (fun _=>?_);refine au_ 11 fun K hK=>?_
  go_simp;go_at_call 124;refine (dx_ Ah (H2.o.call A0.o) Ag o_ 1 lA).mono ?_;rintro e W3 ⟨⟨v,rfl⟩,Y3,C3,h3,p3⟩;have H3:=q_ h3;have P3:=q_ ((P2.o.below A0.o).trans p3 (fun j hj=>⟨o_,o_⟩));have I3:=q_ ((I2.o.up (Up.of_below A0.o)).up p3.1);clear h3 p3;obtain ⟨ut,r0,_⟩:=H3.o.fr.tru (i:=0) rfl (j:=40+k*2) (ao_ k hk).2.2.1 (as_ _ o_);obtain ⟨un,r1,_⟩:=H3.o.fr.num (i:=0) rfl (j:=40+k*2+1) (ao_ k hk).2.2.2 (as_ _ o_);have fb:=H3.o.fr.fz (i:=0) rfl;refine hK.out _ _ ⟨I3.o.cell rfl,I3.o.cell rfl⟩ (fun _=>?_);refine au_ 16 fun K hK=>?_
  go_simp;refine hK.out _ _ ⟨I3.o.cell rfl,I3.o.cell rfl⟩ (fun _=>?_);refine au_ 17 fun K hK=>?_
  go_simp;obtain ⟨Y4,C4,h5,p5⟩:=H3.o.setReg hk v;have H5:=q_ h5;have P5:=q_ (P3.o.trans p5 (fun j hj=>.inl o_));have I5:=q_ (I3.o.up p5.1);clear h5 p5;refine hK.out _ _ ⟨I5.o.cell rfl,I5.o.cell rfl⟩ (fun _=>?_);try simp only [Act.put,sA,s0,s1]
  exact ub_
 go_simp;refine hK.out _ _ (KS.o _ A4.o) (fun _=>?_);refine au_ 5 fun K hK=>?_
 go_simp;refine hK.out _ _ (KS.o _ A1.o) (fun _=>?_);refine aa_ 7 258 ?_;refine aw_ 10 k_ rfl (fun K hK=>?_);go_simp;refine hK.out _ _ (KS.o _ A1.o) (fun _=>?_);refine au_ 11 fun K hK=>?_
 go_simp;go_at_call 124;refine (dx_ Ai (H2.o.call A1.o) Ag o_ 1 lB).mono ?_;rintro e W3 ⟨⟨v,rfl⟩,Y3,C3,h3,p3⟩;have H3:=q_ h3;have P3:=q_ ((P2.o.below A1.o).trans p3 (fun j hj=>⟨o_,o_⟩));have I3:=q_ ((I2.o.up (Up.of_below A1.o)).up p3.1);clear h3 p3;obtain ⟨ut,r0,_⟩:=H3.o.fr.tru (i:=0) rfl (j:=40+k*2) (ao_ k hk).2.2.1 (as_ _ o_);obtain ⟨un,r1,_⟩:=H3.o.fr.num (i:=0) rfl (j:=40+k*2+1) (ao_ k hk).2.2.2 (as_ _ o_);have fb:=H3.o.fr.fz (i:=0) rfl;refine hK.out _ _ ⟨I3.o.cell rfl,I3.o.cell rfl⟩ (fun _=>?_);refine au_ 16 fun K hK=>?_
 go_simp;refine hK.out _ _ ⟨I3.o.cell rfl,I3.o.cell rfl⟩ (fun _=>?_);refine au_ 17 fun K hK=>?_
 go_simp;obtain ⟨Y4,C4,h5,p5⟩:=H3.o.setReg hk v;have H5:=q_ h5;have P5:=q_ (P3.o.trans p5 (fun j hj=>.inl o_));have I5:=q_ (I3.o.up p5.1);clear h5 p5;refine hK.out _ _ ⟨I5.o.cell rfl,I5.o.cell rfl⟩ (fun _=>?_);try simp only [Act.put,sA,s0,s1]
 exact ub_
theorem rest_handler {X Z Y:NP} {w0:World} {LL:List LV} {b K L:Nat} {l:List In} {pc:Int} {C:Nat->VL} (w:World) (h:OneS X Z w0 LL b K L l pc Y C w) (hK:K<=1000000000) (hL:100<=L/\L<=9000) (i:Nat) (x:In) (hpc:pc=(i:Int)) (hx:OkI l i x) (hop:x.op=17) :
  Calls prog 127 #[.pointer (some (a_ b)),.agg #[i_ x.op,i_ x.a,i_ x.b,i_ x.c,i_ x.n]] w fun e w'=>e=.returned (.tuple #[])/\Ms X Z w0 LL b K (L+30) l pc Y C w w' (fun j=>j<38):=by
 subst hpc;obtain ⟨V,hV,A1,A3,W0⟩:=ag_ w [i_ x.op,i_ x.a,i_ x.b,i_ x.c,i_ x.n] 202;have H0:=q_ (h.call A1);have I0:=h_ (Lc V Y w [i_ x.op,i_ x.a,i_ x.b,i_ x.c,i_ x.n]) (⟨W0,fun hy=>Nat.lt_irrefl _ (h.fr.lt _ hy)⟩);have P0:=q_ ((Pr.refl b (fun j=>j<38) w Y C).below A1);have HX:=q_ hx;have A6:=h.fr.blt (i:=0) rfl;obtain ⟨k,hk,A2⟩:∃ k:Nat,k<16/\x.a=(k:Int):=⟨x.a.toNat,zl_,zl_⟩;obtain ⟨op,xa,xb,xc,xn⟩:=x;have A2:xa=(k:Int):=A2;subst A2;have hop:op=17:=hop;subst hop;have v0:=W0.2.1 0 _ rfl;have v1:=W0.2.1 1 _ rfl;have A8:(w:Nat)<V:=by omega
 have A4:b<V:=by omega
 clear h A1 A3 W0 hx;go_enter func127,ntmps127;go_upto_region 1 with fail;rw [<-hV];clear hV;have A7:(k:Int)<16:=by omega
 obtain ⟨rt,r0,_⟩:=H0.o.fr.tru (i:=0) rfl (j:=4+k*2) (ao_ k hk).1 (as_ _ o_);obtain ⟨rn,r1,_⟩:=H0.o.fr.num (i:=0) rfl (j:=4+k*2+1) (ao_ k hk).2.1 (as_ _ o_);go_cut [4] (fun p wx=>∃ q:Nat,p=.pointer (some (a_ q))/\V<=q/\Hid (Bx wx q [.bool rt,i_ rn])/\Hid (Below V V wx))
 case first =>
  exact cuF
 obtain ⟨q,rfl,hq,hB,A0⟩:=hcut;have H1:=q_ (H0.o.call A0.o);have I1:=q_ (I0.o.up (Up.of_below A0.o));have P1:=q_ (P0.o.below A0.o);have Q1:=h_ (Lc wc Y q [.bool rt,i_ rn]) (⟨hB.o,fun hy=>by have:=H0.o.fr.lt _ hy;omega⟩);have y0:=I1.o.cell (j:=0) rfl;have y1:=I1.o.cell (j:=1) rfl;have y2:=I1.o.cell (j:=2) rfl;have y3:=I1.o.cell (j:=3) rfl;have y4:=I1.o.cell (j:=4) rfl;have A5:b<wc:=lt_ A4 A0.o.size;clear v0 v1 r0 r1 hB;go_wp2_with (go_at_call 171;refine (frame_m wc H1.o hK o_).mono ?_;rintro e W2 ⟨⟨f,fn,rfl⟩,Y2,C2,h2,p2⟩;have H2:=q_ h2;have I2:=q_ (I1.o.up p2.1);have P2:=q_ (P1.o.trans p2 (fun j hj=>by constructor <;> omega));have z4:=I2.o.cell (j:=4) rfl;clear h2 p2 y0 y1 y2 y3 y4);refine (ej_ W2 H2.o o_ f 2 ⟨false,xn⟩).mono ?_;rintro e W3 ⟨rfl,hM⟩;have HM:=q_ hM;clear hM;go_wp2;exact u6_
theorem rest_none {X Z Y:NP} {w0:World} {LL:List LV} {b K L:Nat} {l:List In} {pc:Int} {C:Nat->VL} (w:World) (h:OneS X Z w0 LL b K L l pc Y C w) (hK:K<=1000000000) (hL:100<=L/\L<=9000) (i:Nat) (x:In) (hpc:pc=(i:Int)) (hx:OkI l i x) (hop:x.op≠5/\x.op≠6/\x.op≠7/\x.op≠13/\x.op≠14/\x.op≠15/\x.op≠18/\x.op≠17) :
  Calls prog 127 #[.pointer (some (a_ b)),.agg #[i_ x.op,i_ x.a,i_ x.b,i_ x.c,i_ x.n]] w fun e w'=>e=.returned (.tuple #[])/\Ms X Z w0 LL b K (L+30) l pc Y C w w' (fun j=>j<38):=by
 subst hpc;obtain ⟨V,hV,A1,A8,W0⟩:=ag_ w [i_ x.op,i_ x.a,i_ x.b,i_ x.c,i_ x.n] 202;have H0:=q_ (h.call A1);have I0:=h_ (Lc V Y w [i_ x.op,i_ x.a,i_ x.b,i_ x.c,i_ x.n]) (⟨W0,fun hy=>Nat.lt_irrefl _ (h.fr.lt _ hy)⟩);have P0:=q_ ((Pr.refl b (fun j=>j<38) w Y C).below A1);have HX:=q_ hx;have Ab:=h.fr.blt (i:=0) rfl;obtain ⟨k,hk,A2⟩:∃ k:Nat,k<16/\x.a=(k:Int):=⟨x.a.toNat,zl_,zl_⟩;obtain ⟨op,xa,xb,xc,xn⟩:=x;have A2:xa=(k:Int):=A2;subst A2;have v0:=W0.2.1 0 _ rfl;have v1:=W0.2.1 1 _ rfl;have Ad:(w:Nat)<V:=by omega
 have A9:b<V:=by omega
 clear h A1 A8 W0 hx;go_enter func127,ntmps127;go_upto_region 1 with fail;rw [<-hV];clear hV;have Ac:(k:Int)<16:=by omega
 obtain ⟨rt,r0,_⟩:=H0.o.fr.tru (i:=0) rfl (j:=4+k*2) (ao_ k hk).1 (as_ _ o_);obtain ⟨rn,r1,_⟩:=H0.o.fr.num (i:=0) rfl (j:=4+k*2+1) (ao_ k hk).2.1 (as_ _ o_);go_cut [4] (fun p wx=>∃ q:Nat,p=.pointer (some (a_ q))/\V<=q/\Hid (Bx wx q [.bool rt,i_ rn])/\Hid (Below V V wx))
 case first =>
  exact cuF
 obtain ⟨q,rfl,hq,hB,A0⟩:=hcut;have H1:=q_ (H0.o.call A0.o);have I1:=q_ (I0.o.up (Up.of_below A0.o));have P1:=q_ (P0.o.below A0.o);have Q1:=h_ (Lc wc Y q [.bool rt,i_ rn]) (⟨hB.o,fun hy=>by have:=H0.o.fr.lt _ hy;omega⟩);have y0:=I1.o.cell (j:=0) rfl;have y1:=I1.o.cell (j:=1) rfl;have y2:=I1.o.cell (j:=2) rfl;have y3:=I1.o.cell (j:=3) rfl;have y4:=I1.o.cell (j:=4) rfl;have Aa:b<wc:=lt_ A9 A0.o.size;clear v0 v1 r0 r1 hB;obtain ⟨h5,h6,h7,A3,A4,A5,A7,A6⟩:=hop;have h5:op≠5:=h5;have h6:op≠6:=h6;have h7:op≠7:=h7;have A3:op≠13:=A3;have A4:op≠14:=A4;have A5:op≠15:=A5;have A7:op≠18:=A7;have A6:op≠17:=A6;go_wp2;refine end0 zc_ rfl ?_;exact ⟨rfl,P1.o.ms (H1.o.raise o_)⟩
theorem rest_caught {X Z Y:NP} {w0:World} {LL:List LV} {b K L:Nat} {l:List In} {pc:Int} {C:Nat->VL} (w:World) (h:OneS X Z w0 LL b K L l pc Y C w) (hK:K<=1000000000) (hL:100<=L/\L<=9000) (i:Nat) (x:In) (hpc:pc=(i:Int)) (hx:OkI l i x) (hop:x.op=18) :
  Calls prog 127 #[.pointer (some (a_ b)),.agg #[i_ x.op,i_ x.a,i_ x.b,i_ x.c,i_ x.n]] w fun e w'=>e=.returned (.tuple #[])/\Ms X Z w0 LL b K (L+30) l pc Y C w w' (fun j=>j<38):=by
 subst hpc;obtain ⟨V,hV,A6,Aj,W0⟩:=ag_ w [i_ x.op,i_ x.a,i_ x.b,i_ x.c,i_ x.n] 202;have H0:=q_ (h.call A6);have I0:=h_ (Lc V Y w [i_ x.op,i_ x.a,i_ x.b,i_ x.c,i_ x.n]) (⟨W0,fun hy=>Nat.lt_irrefl _ (h.fr.lt _ hy)⟩);have P0:=q_ ((Pr.refl b (fun j=>j<38) w Y C).below A6);have HX:=q_ hx;have Au:=h.fr.blt (i:=0) rfl;obtain ⟨k,hk,A7⟩:∃ k:Nat,k<16/\x.a=(k:Int):=⟨x.a.toNat,zl_,zl_⟩;obtain ⟨op,xa,xb,xc,xn⟩:=x;have A7:xa=(k:Int):=A7;subst A7;have hop:op=18:=hop;subst hop;have v0:=W0.2.1 0 _ rfl;have v1:=W0.2.1 1 _ rfl;have Az:(w:Nat)<V:=by omega
 have Ak:b<V:=by omega
 clear h A6 Aj W0 hx;go_enter func127,ntmps127;go_upto_region 1 with fail;rw [<-hV];clear hV;have Av:(k:Int)<16:=by omega
 obtain ⟨rt,r0,_⟩:=H0.o.fr.tru (i:=0) rfl (j:=4+k*2) (ao_ k hk).1 (as_ _ o_);obtain ⟨rn,r1,_⟩:=H0.o.fr.num (i:=0) rfl (j:=4+k*2+1) (ao_ k hk).2.1 (as_ _ o_);go_cut [4] (fun p wx=>∃ q:Nat,p=.pointer (some (a_ q))/\V<=q/\Hid (Bx wx q [.bool rt,i_ rn])/\Hid (Below V V wx))
 case first =>
  exact cuF
 obtain ⟨q,rfl,hq,hB,A2⟩:=hcut;have H1:=q_ (H0.o.call A2.o);have I1:=q_ (I0.o.up (Up.of_below A2.o));have P1:=q_ (P0.o.below A2.o);have Q1:=h_ (Lc wc Y q [.bool rt,i_ rn]) (⟨hB.o,fun hy=>by have:=H0.o.fr.lt _ hy;omega⟩);have y0:=I1.o.cell (j:=0) rfl;have y1:=I1.o.cell (j:=1) rfl;have y2:=I1.o.cell (j:=2) rfl;have y3:=I1.o.cell (j:=3) rfl;have y4:=I1.o.cell (j:=4) rfl;have As:b<wc:=lt_ Ak A2.o.size;clear v0 v1 r0 r1 hB;go_wp2_with fail;refine (root_m wc H1.o hK).mono ?_;rintro e W2 ⟨rfl,Y2,C2,h2,p2⟩;have H2:=q_ h2;have I2:=q_ (I1.o.up p2.1);have P2:=q_ (P1.o.trans p2 (fun j hj=>by show j≠81;omega));obtain ⟨bk,Al,_⟩:=h2.fr.tru (i:=0) rfl (j:=81) rfl rfl;clear h2 p2 y0 y1 y2 y3 y4;cases bk
 case true =>
  exact uk_
 have KS:=h_ (∀ w',Below W2 W2 w'->(w'.cell? (a_ w)=some (i_ 18)/\w'.cell? (f_ w 1)=some (i_ (k:Int)))) (fun w' hb=>⟨(I2.o.up (Up.of_below hb)).cell rfl,(I2.o.up (Up.of_below hb)).cell rfl⟩);have Ay:=@run_makeMap prog;have Ag:K<=1000000000:=hK;have A5:IntMap ((W2.alloc (.map #[] 0)).drew) W2 0:=IntMap.made W2.drew;have BM:=h_ (Below W2 W2 ((W2.alloc (.map #[] 0)).drew)) ((Below.drew (b_)).alloc (l_) _);obtain ⟨Am,Ao,A8,Ac⟩:=A5.put (k:=15) (v:=1) m_ d_ d_;obtain ⟨Ah,Ap,A9,Ad⟩:=A8.put (k:=18) (v:=2) m_ d_ d_;obtain ⟨lA,Aw⟩:=A9.look (k:=18) d_;have A3:=q_ (BM.o.trans (al_ Ac t_ (fun k hk=>by injection hk with hk;omega)));have A0:=q_ (A3.o.trans (al_ Ad A3.o.size (fun k hk=>by injection hk with hk;omega)));clear A8 A9 Ac Ad;obtain ⟨An,Aq,Aa,Ae⟩:=A5.put (k:=18) (v:=2) m_ d_ d_;obtain ⟨Ai,Ar,Ab,Af⟩:=Aa.put (k:=15) (v:=1) m_ d_ d_;obtain ⟨lB,Ax⟩:=Ab.look (k:=18) d_;have A4:=q_ (BM.o.trans (al_ Ae t_ (fun k hk=>by injection hk with hk;omega)));have A1:=q_ (A4.o.trans (al_ Af A4.o.size (fun k hk=>by injection hk with hk;omega)));clear Aa Ab Ae Af;clear A5;go_upto_region 37 with fail;clear Al;refine am_ (S:=fun w':World=>w'.cell? (a_ w)=some (i_ 18)/\w'.cell? (f_ w 1)=some (i_ (k:Int))) rfl (KS.o _ (Below.drew (b_))) (fun _=>?_);go_simp;refine aa_ 0 253 ?_;refine aa_ 1 254 ?_;refine aa_ 2 255 ?_;refine aa_ 3 256 ?_;refine aa_ 8 259 ?_;refine aa_ 9 260 ?_;refine aa_ 12 263 ?_;refine aa_ 13 264 ?_;refine aa_ 14 265 ?_;refine aa_ 15 266 ?_;refine aw_ 4 k_ rfl (fun K hK=>?_);go_simp;refine hK.out _ _ (KS.o _ BM.o) (fun _=>?_);try simp only [Act.put,sA,s0,s1]
 refine wpAnyH_ready (rs:=[5,6]) k_ t_ (AllReadyH.cons rfl (fun K hK=>?_) (AllReadyH.cons rfl (fun K hK=>?_) AllReadyH.nil))
 ·go_simp;refine hK.out _ _ (KS.o _ A3.o) (fun _=>?_);refine au_ 6 fun K hK=>?_
  go_simp;refine hK.out _ _ (KS.o _ A0.o) (fun _=>?_);refine aa_ 7 258 ?_;refine aw_ 10 k_ rfl (fun K hK=>?_);go_simp;refine hK.out _ _ (KS.o _ A0.o) (fun _=>?_);refine au_ 11 fun K hK=>?_
  go_simp;go_at_call 124;refine (dx_ Ah (H2.o.call A0.o) Ag o_ 1 lA).mono ?_;rintro e W3 ⟨⟨v,rfl⟩,Y3,C3,h3,p3⟩;have H3:=q_ h3;have P3:=q_ ((P2.o.below A0.o).trans p3 (fun j hj=>⟨o_,o_⟩));have I3:=q_ ((I2.o.up (Up.of_below A0.o)).up p3.1);clear h3 p3;obtain ⟨ut,r0,_⟩:=H3.o.fr.tru (i:=0) rfl (j:=40+k*2) (ao_ k hk).2.2.1 (as_ _ o_);obtain ⟨un,r1,_⟩:=H3.o.fr.num (i:=0) rfl (j:=40+k*2+1) (ao_ k hk).2.2.2 (as_ _ o_);have fb:=H3.o.fr.fz (i:=0) rfl;refine hK.out _ _ ⟨I3.o.cell rfl,I3.o.cell rfl⟩ (fun _=>?_);refine au_ 16 fun K hK=>?_
  go_simp;refine hK.out _ _ ⟨I3.o.cell rfl,I3.o.cell rfl⟩ (fun _=>?_);refine au_ 17 fun K hK=>?_
  go_simp;obtain ⟨Y4,C4,h5,p5⟩:=H3.o.setReg hk v;have H5:=q_ h5;have P5:=q_ (P3.o.trans p5 (fun j hj=>.inl o_));have I5:=q_ (I3.o.up p5.1);clear h5 p5;refine hK.out _ _ ⟨I5.o.cell rfl,I5.o.cell rfl⟩ (fun _=>?_);try simp only [Act.put,sA,s0,s1]
  exact ub_
 go_simp;refine hK.out _ _ (KS.o _ A4.o) (fun _=>?_);refine au_ 5 fun K hK=>?_
 go_simp;refine hK.out _ _ (KS.o _ A1.o) (fun _=>?_);refine aa_ 7 258 ?_;refine aw_ 10 k_ rfl (fun K hK=>?_);go_simp;refine hK.out _ _ (KS.o _ A1.o) (fun _=>?_);refine au_ 11 fun K hK=>?_
 go_simp;go_at_call 124;refine (dx_ Ai (H2.o.call A1.o) Ag o_ 1 lB).mono ?_;rintro e W3 ⟨⟨v,rfl⟩,Y3,C3,h3,p3⟩;have H3:=q_ h3;have P3:=q_ ((P2.o.below A1.o).trans p3 (fun j hj=>⟨o_,o_⟩));have I3:=q_ ((I2.o.up (Up.of_below A1.o)).up p3.1);clear h3 p3;obtain ⟨ut,r0,_⟩:=H3.o.fr.tru (i:=0) rfl (j:=40+k*2) (ao_ k hk).2.2.1 (as_ _ o_);obtain ⟨un,r1,_⟩:=H3.o.fr.num (i:=0) rfl (j:=40+k*2+1) (ao_ k hk).2.2.2 (as_ _ o_);have fb:=H3.o.fr.fz (i:=0) rfl;refine hK.out _ _ ⟨I3.o.cell rfl,I3.o.cell rfl⟩ (fun _=>?_);refine au_ 16 fun K hK=>?_
 go_simp;refine hK.out _ _ ⟨I3.o.cell rfl,I3.o.cell rfl⟩ (fun _=>?_);refine au_ 17 fun K hK=>?_
 go_simp;obtain ⟨Y4,C4,h5,p5⟩:=H3.o.setReg hk v;have H5:=q_ h5;have P5:=q_ (P3.o.trans p5 (fun j hj=>.inl o_));have I5:=q_ (I3.o.up p5.1);clear h5 p5;refine hK.out _ _ ⟨I5.o.cell rfl,I5.o.cell rfl⟩ (fun _=>?_);try simp only [Act.put,sA,s0,s1]
 exact ub_
def RCom (X:NP) (K:Nat) (e:Ending) (w:World):Prop:=∃ (us:VL) (ev:Int),e=.returned (.tuple #[.agg us.toArray,i_ ev])/\VTs w X K comT us
def cp_ (A:OA) (n c:Nat):VL:=[.slice A n c,i_ 0,i_ 0,.slice none 0 0,.bool false,.bool false,.bool false,i_ 0,i_ 0,i_ 0]
theorem eb_ (A:OA) (n c:Nat):(prog.info? 40).map (·.size)=some (cp_ A n c).length:=dy_
theorem cy_ {X:NP} {w:World} {K:Nat} {A:OA} {n c:Nat} (h:SlT w X K objT A n c):VTs w X K comT (cp_ A n c):=VTs.cons h.vt (bb_ K (comT.drop 1))
theorem ret_com {X:NP} {w0 w:World} {L:List LV} {Y:NP} {C:Nat->VL} {i b N:Nat} {us:VL} (F:Fr X (fun _=>False) w0 L Y C w) (hp:L[i]?=some ⟨b,fun _=>N,comT,noOw⟩) (hv:VTs w Y N comT us) (ev:Int) :
  (∃ f2:Fr X (fun _=>False) w0 L Y (upd C b us) (w.setCells b 0 us),True)/\RCom X N (.returned (.tuple #[.agg (upd C b us b).toArray,i_ ev])) (w.setCells b 0 us)/\Below w0 w0 (w.setCells b 0 us):=by
 exact uc_
theorem Begin22_t (X:NP) (K:Nat) (A:OA) (n c:Nat) (v s:Int) (l:List In) (w:World) (hco:SlT w X K ay_ A n c) (hl:Sl w w 5 In.cells A n l) (hK:K<=900000000) (hX:∀ k,X k->k<w) :
  Calls prog 39 #[.agg #[.slice A n c,i_ v,i_ s]] w fun e w'=>RCom X 100 e w'/\Below w w w':=by
 obtain ⟨W,Y,C,hW,hz,U,F,c0,c1⟩:=Fr.start2 hX K [.sl ay_,.num,.num] [.slice A n c,i_ v,i_ s] 26 (VTs.cons hco.vt (VTs.cons (.num _) (VTs.cons (.num _) VTs.nil))) 100 comT (cp_ none 0 0) 40 (cy_ (cs_ _ _ _ _));have A4:=q_ (hco.go U (l_));have HL:=q_ (hl.go hco U);have HF:=q_ F;have x0:=F.cell (i:=1) rfl (j:=0) y6_;have x1:=F.cell (i:=1) rfl (j:=1) y6_;have x2:=F.cell (i:=1) rfl (j:=2) y6_;have A2:W=(w.alloc (.cells #[.slice A n c,i_ v,i_ s] 26)).alloc (.cells zl3.toArray 40):=hW;clear hco hl hX U F c0 c1 hW;go_enter func39,ntmps39;go_upto_region 1 with fail;rw [<-A2];clear A2;go_wp2_with fail;refine (Start_t Y K A n c v s l W A4.o HL.o hK HF.o.lt).mono ?_;rintro e S ⟨⟨us,ev,rfl,A0⟩,hS⟩;have F1:=q_ (HF.o.call hS);have US:=q_ A0;have IS:=h_ ((prog.info? 140).map (·.size)=some us.length) (by rw [A0.1];exact isz_140);have BN:=q_ (Bx.new S zl2 140);have LR:=h_ ((zl2:VL).length=en_.length) rfl;obtain ⟨N,Y3,D3,hN,A6,u3,f3,cN,A5⟩:=F1.o.ef_ 100 en_ zl2 us 140 er_ US.o;have F4:=q_ f3;have U3:=q_ u3;have CN:=q_ cN;have A7:(w:Nat)+1<S:=F1.o.blt (i:=0) rfl;clear hS f3 u3 cN A5 A6 x0 x1 x2;go_upto_region 2 with (with_reducible refine ab_ rfl 140 (.tmp 4) (.tmp 9) rfl (us) w_ v_ (BN.o.aj_ LR.o (Nat.le_of_eq US.o.len)) IS.o US.o.one ?_);rw [<-hN];clear hN;obtain ⟨sv,ur,rfl,A3,_⟩:=A0.head;obtain ⟨HA,hn,hc,rfl,hh⟩:=A3.slice;have HH:=q_ (hh.go U3.o (l_));have s0:=F4.o.cell (i:=0) rfl (j:=0) (v:=.slice HA hn hc) (by rw [CN.o];rfl);clear hh A3 A0;have BR:=q_ (F4.o.box (i:=1) rfl);have LR:=q_ (F4.o.len (i:=1) rfl);by_cases hev:ev=0
 case neg =>
  have HZ:=h_ (VTs N Y3 100 comT (cp_ none 0 0)) (cy_ (cs_ _ _ _ _));have A1:=h_ ((cp_ none 0 0).length<=comT.length) (Nat.le_refl 10);go_wp2_with (with_reducible refine ab_ rfl 40 (.tmp 2) (.tmp 13) rfl (cp_ none 0 0) w_ zo_ (BR.o.aj_ LR.o A1.o) (eb_ _ _ _) HZ.o.one ?_);obtain ⟨⟨f9,_⟩,hr⟩:=ret_com F4.o (i:=1) rfl HZ.o ev;exact to_
 subst hev;have HZ:=h_ (VTs N Y3 100 comT (cp_ HA hn hc)) (cy_ HH.o);have A1:=h_ ((cp_ HA hn hc).length<=comT.length) (Nat.le_refl 10);go_wp2_with (with_reducible refine ab_ rfl 40 (.tmp 2) (.tmp 17) rfl (cp_ HA hn hc) w_ zo_ (BR.o.aj_ LR.o A1.o) (eb_ _ _ _) HZ.o.one ?_);obtain ⟨⟨f9,_⟩,hr⟩:=ret_com F4.o (i:=1) rfl HZ.o 0;exact to_
section
variable {X Z Y:NP} {w0 w w':World} {L:List LV} {C:Nat->VL} {b i j N o:Nat} {K:Nat->Nat} {ts us:List CT} {ow:Nat->Option TypeId} {t:CT} {v:Value} {vs:VL}
theorem Fr.set1 (h:Fr X Z w0 L Y C w) (hp:L[i]?=some ⟨b,K,ts,ow⟩) (hj:ts[j]?=some t) (ho:ow j=none) (hv:VT w Y (K j) t v) :
  ∃ W C',W=w.setCell (f_ b j) v/\Fr X Z w0 L Y C' W/\Up w Y W Y/\(∀ k,k≠b->C' k=C k)/\C' b=(C b).set j v/\(W:Nat)=w:=by
 obtain ⟨f,u⟩:=h.set hp hj ho hv;exact ⟨_,_,rfl,f,u,fun k hk=>ad_ _ _ hk,upd_same _ _ _,by simp [World.setCell]⟩
theorem Fr.part1 (h:Fr X Z w0 L Y C w) (hp:L[i]?=some ⟨b,K,ts,ow⟩) (o:Nat) (hu:(ts.drop o).take us.length=us) (hou:o+us.length<=ts.length) (hv:VTs w Y N us vs) (hK:∀ j,o<=j->j<o+us.length->N<=K j/\ow j=none) :
  ∃ W C',W=w.setCells b o vs/\Fr X Z w0 L Y C' W/\Up w Y W Y/\(∀ k,k≠b->C' k=C k)/\C' b=splice (C b) o vs/\(W:Nat)=w:=by
 obtain ⟨f,u⟩:=h.part hp hu hou hv hK;exact tx_
theorem Fr.sets1 (h:Fr X Z w0 L Y C w) (hp:L[i]?=some ⟨b,fun _=>N,ts,noOw⟩) (hv:VTs w Y N ts vs) :
  ∃ W C',W=w.setCells b 0 vs/\Fr X Z w0 L Y C' W/\Up w Y W Y/\(∀ k,k≠b->C' k=C k)/\C' b=vs/\(W:Nat)=w:=by
 obtain ⟨f,u⟩:=h.sets hp hv;exact tx_
theorem Fr.more_own (h:Fr X Z w0 L Y C w) (hno:∀ p ∈ L,p.ow=noOw) (hb:Below w.heap.size w w') {A:OA} {n c:Nat} (hA:∀ g,(Value.slice A n c).ownBlock=some g->w.heap.size<=g/\g<w'.heap.size) :
  ∃ Y',Fr X Z w0 L Y' C w'/\Up w Y w' Y'/\(∀ g,(Value.slice A n c).ownBlock=some g->Y' g/\w0.heap.size<=g/\∀ p ∈ L,p.b≠g)/\(∀ k,Y k->Y' k):=by
 have A0:∀ k,k<w.heap.size->¬Y k->¬(Y k\/(Value.slice A n c).ownBlock=some k):=fun k hk h1 h2=>by
  rcases h2 with h2 | h2
  ·exact h1 h2
  have:=hA k h2;omega
 have A2:Up w Y w' (fun k=>Y k\/(Value.slice A n c).ownBlock=some k):=⟨.of_below hb,A0⟩;have hz:=h.kp.size;refine ⟨_,⟨h.kp.az_ hb,fun k hk=>.inl (h.sub k hk),fun k hk=>?_,fun p hp=>?_,fun p hp j t hj ho=>?_,fun p hp j t et hj ho=>?_,fun p hp q hq i j u v g hne A1=>?_,h.nd⟩,A2,fun g hg=>⟨.inr hg,by have:=hA g hg;omega,fun p hp=>?_⟩,fun k hk=>.inl hk⟩
 ·rcases hk with hk | hk
  ·exact lt_ (h.lt k hk) hb.size
  exact (hA k hk).2
 ·obtain ⟨h1,h2,h3,h4⟩:=h.blk p hp;exact ⟨.inl h1,h2,h3.below hb,h4⟩
 ·obtain ⟨v,h1,h2⟩:=h.val p hp j t hj ho;exact ⟨v,h1,h2.go A2 (l_)⟩
 ·rw [hno p hp] at ho;cases ho
 ·rw [hno p hp] at A1;exact absurd rfl A1
 have h1:=(h.blk p hp).2.2.1.1;have:=hA g hg;omega
theorem Fr.grow_own (h:Fr X Z w0 L Y C w) (hno:∀ p ∈ L,p.ow=noOw) {A A':OA} {n c n' c':Nat} (hg:w.grownBy w' (Value.slice A n c).ownBlock) (hA:∀ g,(Value.slice A n c).ownBlock=some g->Y g/\w0.heap.size<=g/\∀ p ∈ L,p.b≠g)
  (hloc:∀ g,(Value.slice A' n' c').ownBlock=some g->(Value.slice A n c).ownBlock=some g\/g=w.heap.size) (hlt:∀ g,(Value.slice A' n' c').ownBlock=some g->g<w'.heap.size) :
  ∃ Y',Fr X Z w0 L Y' C w'/\Up w Y w' Y'/\(∀ g,(Value.slice A' n' c').ownBlock=some g->Y' g/\w0.heap.size<=g/\∀ p ∈ L,p.b≠g)/\(∀ k,Y k->Y' k):=by
 have A4:Kp Y w w':=(Kp.refl _ w).grown hg (fun g hg=>.inl (hA g hg).1);have A1:∀ k,k<w.heap.size->¬Y k->¬(Y k\/(Value.slice A' n' c').ownBlock=some k):=fun k hk h1 h2=>by
  rcases h2 with h2 | h2
  ·exact h1 h2
  rcases hloc k h2 with h3 | h3
  ·exact h1 (hA k h3).1
  omega
 have A3:Up w Y w' (fun k=>Y k\/(Value.slice A' n' c').ownBlock=some k):=⟨A4,A1⟩;have hz:=h.kp.size;refine ⟨_,⟨?_,fun k hk=>.inl (h.sub k hk),fun k hk=>?_,fun p hp=>?_,fun p hp j t hj ho=>?_,fun p hp j t et hj ho=>?_,fun p hp q hq i j u v g hne A2=>?_,h.nd⟩,A3,fun g A0=>⟨.inr A0,?_⟩,fun k hk=>.inl hk⟩
 ·exact h.kp.grown hg (fun g A0=>.inr (hA g A0).2.1)
 ·rcases hk with hk | hk
  ·exact lt_ (h.lt k hk) hg.size
  exact hlt k hk
 ·obtain ⟨h1,h2,h3,h4⟩:=h.blk p hp;exact ⟨.inl h1,h2,h3.kp (X:=fun k=>(Value.slice A n c).ownBlock=some k) ((Kp.refl _ w).grown hg (fun g A0=>.inl A0)) (fun he=>(hA _ he).2.2 p hp rfl),h4⟩
 ·obtain ⟨v,h1,h2⟩:=h.val p hp j t hj ho;exact ⟨v,h1,h2.go A3 (l_)⟩
 ·rw [hno p hp] at ho;cases ho
 ·rw [hno p hp] at A2;exact absurd rfl A2
 rcases hloc g A0 with h3 | h3
 ·exact (hA g h3).2
 refine ⟨o_,fun p hp=>?_⟩;have h1:=(h.blk p hp).2.2.1.1;omega
end
def comS:List CT:=comT.set 3 (.sat fun _=>True)
theorem comS_at {j:Nat} (h:j≠3):comS[j]?=comT[j]?:=by unfold comS;rw [gs_,if_neg (fun e=>h e.symm)]
theorem com_weak {X Z Y:NP} {w0 w:World} {L:List LV} {C:Nat->VL} {b N:Nat} {p q:LV} (h:Fr X Z w0 (p :: q :: ⟨b,fun _=>N,comT,noOw⟩ :: L) Y C w):Fr X Z w0 (p :: q :: ⟨b,fun _=>N,comS,noOw⟩ :: L) Y C w:=by
 have same:∀ (p' q':LV),p'=q'->q'.b=p'.b/\q'.ow=p'.ow/\(∀ j,p'.K j<=q'.K j)/\q'.ts.length=p'.ts.length/\∀ j t t',p'.ts[j]?=some t->q'.ts[j]?=some t' →
   (p'.ow j=none->∀ v,VT w Y (q'.K j) t v->VT w Y (q'.K j) t' v)/\(p'.ow j≠none->∀ e:List CT,t=.sl e->∃ e':List CT,t'=.sl e'/\e'.length=e.length/\∀ (i:Nat) (s s':CT),e[i]?=some s->e'[i]?=some s'->∀ (X':NP) (K':Nat) (v:Value),VT w X' K' s v->VT w X' K' s' v):=by
  rintro p' _ rfl;refine ⟨rfl,rfl,fun _=>l_,rfl,fun j t t' hj A0=>?_⟩;rw [hj] at A0;injection A0 with A0;subst A0;exact ⟨fun _ v hv=>hv,fun _ e he=>⟨e,he,rfl,fun i s s' hs A1 X' K' v hv=>by rw [hs] at A1;injection A1 with A1;subst A1;exact hv⟩⟩
 refine h.weak rfl (fun i p' q' hp hq=>?_)
 match i,hp,hq with
 | 0,hp,hq=>exact same _ _ w0_
 | 1,hp,hq=>exact same _ _ w0_
 | 2,hp,hq =>
  injection hp with hp;injection hq with hq;subst hp hq;refine ⟨rfl,rfl,fun _=>l_,rfl,fun j t t' hj A0=>⟨fun _ v hv=>?_,fun h=>absurd rfl h⟩⟩;by_cases h3:j=3
  ·subst h3;have A0:comS[3]?=some t':=A0;injection A0 with A0;subst A0;exact .sat _ _ hv.one trivial
  have A0:comS[j]?=some t':=A0;rw [comS_at h3,show comT[j]?=some t from hj] at A0;injection A0 with A0;subst A0;exact hv
 | i+3,hp,hq =>
  refine same _ _ ?_;have hp:L[i]?=some p':=by simpa using hp
  have hq:L[i]?=some q':=by simpa using hq
  rw [hp] at hq;injection hq
def Fy (X:NP) (w:World) (L:List LV) (b:Nat) (Y:NP) (Cx:Nat->VL) (base:Nat) (et:TypeId) (Y2:NP) (M:Nat) (A:OA) (n c:Nat) (wx:World):Prop:=∃ C',Fr X (fun _=>False) w L Y C' wx/\(C' b)[3]?=some (.slice A n c)/\OwT wx base et actT Y2 M A n c/\∀ k,k≠b->C' k=Cx k
section
variable {X Y Y2:NP} {w wx w2:World} {L:List LV} {Cx:Nat->VL} {b i j base M N n c:Nat} {et:TypeId} {K:Nat->Nat} {ts:List CT} {ow:Nat->Option TypeId} {t:CT} {v:Value} {A:OA}
theorem Fy.set (h:Fy X w L b Y Cx base et Y2 M A n c wx) (hb:Y2 b/\b<base) (hp:L[i]?=some ⟨b,K,ts,ow⟩) (hj:ts[j]?=some t) (ho:ow j=none) (h3:j≠3) (hv:VT wx Y (K j) t v):Fy X w L b Y Cx base et Y2 M A n c (wx.setCell (f_ b j) v):=by
 obtain ⟨C',f,hC,hO,hk⟩:=h;obtain ⟨f2,_⟩:=f.set hp hj ho hv;exact ⟨_,f2,by rw [upd_same,gs_,if_neg h3];exact hC,hO.kept (dw_ wx (f_ b j) v) (fun k hk=>by injection hk with hk;subst hk;exact hb),fun k h=>by rw [ad_ _ _ h];exact hk k h⟩
theorem Fy.drew (h:Fy X w L b Y Cx base et Y2 M A n c wx):Fy X w L b Y Cx base et Y2 M A n c wx.drew:=by
 obtain ⟨C',f,hC,hO,hk⟩:=h;exact ⟨_,f.drew,hC,hO.below (Below.drew (b_)),hk⟩
theorem Fy.end_ {r k:Nat} {C:Nat->VL} (F:Fr X (fun _=>False) w L Y C wx) (hr:L[i]?=some ⟨r,fun _=>N,comT,noOw⟩) (hs:L[k]?=some ⟨b,fun _=>N,comS,noOw⟩) (h3:(C b)[3]?=some (.slice A n c)) (hO:OwT wx base et actT Y2 M A n c) (hn:n<=M) (hM:M<=N) (hbase:w<=base) (hX:∀ k,X k->k<w/\Y2 k) (hr2:Y2 r/\r<base) (ev:Int) :
  Bx (wx.setCells r 0 (C b)) r (C b)/\(C b).length=comT.length/\(∀ u ∈ C b,u.oneCell'=true)/\RCom X N (.returned (.tuple #[.agg (C b).toArray,i_ ev])) (wx.setCells r 0 (C b))/\Below w w (wx.setCells r 0 (C b)):=by
 have hl:(C b).length=comT.length:=(F.len hs).trans zc_;obtain ⟨A0,A3,A1,A2⟩:=F.blk _ (Fr.mem hr);have hv:VTs wx (fun k=>X k\/k=r) N comT (C b):=⟨hl,fun j t hj=>by
  by_cases e:j=3
  ·subst e
   have hj:comT[3]?=some t:=hj
   injection hj with hj
   subst hj
   refine ⟨_,h3,((hO.sub (Y':=fun k=>X k\/k=r) (fun q _ hq=>?_) hM).slT (fun q hq=>?_) (Nat.le_trans hn hM)).vt⟩
   ·rcases hq with hq | hq
    ·exact .inl (hX q hq).2
    subst hq;exact .inl hr2.1
   rcases hq with hq | hq
   ·exact lt_ (hX q hq).1 hbase
   subst hq;exact hr2.2
  obtain ⟨v,h1,h2⟩:=F.val _ (Fr.mem hs) j t (by show comS[j]?=some t;rw [comS_at e];exact hj) rfl
  exact ⟨v,h1,h2.less (fun q _ hq=>by rcases hq with hq | hq;exact F.sub q hq;subst hq;exact A0)⟩⟩
 have hk:Kp (fun k=>X k\/k=r) wx (wx.setCells r 0 (C b)):=ai_ r _ 0 (Kp.refl _ wx) (.inl (.inr rfl));refine ⟨A1.all _ (by rw [hl];exact A2.symm),hl,hv.one,⟨_,ev,rfl,(hv.up hk (l_)).less (fun q _ hq=>.inl hq)⟩,(ai_ r _ 0 F.kp ?_).below (l_) (fun _ _ h=>h)⟩;rcases A3 with h | h
 ·exact .inr h
 exact h.elim
end
def ROw (base:Nat) (et:TypeId) (X:NP) (K m:Nat) (en:Ending) (w:World):Prop:=∃ (A:OA) (c:Nat),en=.returned (.slice A m c)/\Hid (OwT w base et actT X K A m c)
theorem actions_o (X:NP) (K L:Nat) (A:OA) (n c:Nat) (B:OA) (m d:Nat) (w:World) (ha:SlT w X K actT A n c) (hb:SlT w X L actT B m d) (hK:K<=100000000000) (hL:L<=100000000000) (hX:∀ k,X k->k<w) :
  Calls prog 75 #[.slice A n c,.slice B m d] w fun e w'=>ROw w 152 X (K+L) (n+m) e w'/\Below w w w':=by
 obtain ⟨i0,A1,A2,A3,A6⟩:=info_parts infoAc;have HA:=h_ (SlT w (Wi X (Value.slice none 0 0).ownBlock) (K+L) actT A n c) (ha.kept (Kp.refl _ _) (fun k _ h h2=>by rcases h2 with h2 | h2;exact h h2;cases h2) o_);have HB:=q_ hb;have A0:=q_ hX;have h1:=ha.le;have h2:=hb.le;clear ha hb hX;go_enter func75,ntmps75;go_wp2_with (at_builtin;first
  | (refine ap_ rfl _ _ 36 rfl w 152 i0 _ 24 actT X (K+L) underlying36 A1 A2 A3 A6 rfl d_ none 0 0 zb_ (OwT.nil _ _ _ _ _ _) A n c zb_ HA.o A0.o m_ o_ (l_) ?_;intro A4 c4 w4 o4 g4 l4;rw [Nat.zero_add] at o4 l4 ⊢;have b4:Below w w w4:=al_ g4 (l_) (fun k hk=>by cases hk);have z4:=b4.size;have O4:=q_ o4;have L4:=q_ l4;clear o4 l4 g4)
  | (refine ap_ rfl _ _ 36 rfl w 152 i0 _ 24 actT X (K+L) underlying36 A1 A2 A3 A6 rfl d_ A4 n c4 zb_ O4.o B m d zb_ (HB.o.kept (Kp.of_below b4) (fun k hk h h2=>by rcases h2 with h2 | h2;exact h h2;rcases L4.o k h2 with h3 | h3;cases h3;omega) o_) (fun k hk=>by have:=A0.o k hk;omega) m_ o_ z4 ?_;intro A5 c5 w5 o5 g5 l5;have b5:Below w w w5:=b4.grown g5 z4 (fun k hk=>by rcases L4.o k hk with h3 | h3;cases h3;omega);have O5:=q_ o5;clear o5 l5 g5))
 go_ret;exact ⟨⟨_,_,rfl,O5⟩,b5⟩
def Fx (X:NP) (w:World) (L:List LV) (b:Nat) (Y:NP) (C:Nat->VL) (w1 wx:World):Prop:=∃ C',Fr X (fun _=>False) w L Y C' wx/\(∀ k,k≠b->C' k=C k)/\Up w1 Y wx Y
section
variable {X Y:NP} {w w1 wx w2:World} {L:List LV} {C:Nat->VL} {b i j:Nat} {K:Nat->Nat} {ts:List CT} {ow:Nat->Option TypeId} {t:CT} {v:Value}
theorem Fx.start (h:Fr X (fun _=>False) w L Y C w1) (b:Nat):Fx X w L b Y C w1 w1:=⟨C,h,fun _ _=>rfl,Up.refl _ _⟩
theorem Fx.set (h:Fx X w L b Y C w1 wx) (hp:L[i]?=some ⟨b,K,ts,ow⟩) (hj:ts[j]?=some t) (ho:ow j=none) (hv:VT wx Y (K j) t v):Fx X w L b Y C w1 (wx.setCell (f_ b j) v):=by
 obtain ⟨C',f,hC,hu⟩:=h;obtain ⟨f2,u2⟩:=f.set hp hj ho hv;exact ⟨_,f2,fun k hk=>by rw [ad_ _ _ hk];exact hC k hk,hu.trans u2⟩
theorem Fx.drew (h:Fx X w L b Y C w1 wx):Fx X w L b Y C w1 wx.drew:=by
 obtain ⟨C',f,hC,hu⟩:=h;exact ⟨_,f.drew,hC,hu.drew⟩
end
theorem Commit_t (X:NP) (K:Nat) (A:OA) (n c:Nat) (v s:Int) (l:List In) (N L:Nat) (us vs:VL) (w:World) (hco:SlT w X K ay_ A n c) (hl:Sl w w 5 In.cells A n l) (hK:K<=900000000) (hu:VTs w X N comT us) (hN:N<=900000000) (ht:VTs w X L af_ vs) (hL:L<=9000000) (hX:∀ k,X k->k<w) :
  Calls prog 44 #[.agg #[.slice A n c,i_ v,i_ s],.agg us.toArray,.agg vs.toArray] w fun e w'=>RCom X (N+2*L) e w'/\Below w w w':=by
 have AK:=hco.le;obtain ⟨W0,Y0,C0,As,Av,U0,F0,c0,c1,c2⟩:=Fr.start3 hX K [.sl ay_,.num,.num] [.slice A n c,i_ v,i_ s] 26 (VTs.cons hco.vt (VTs.cons (.num _) (VTs.cons (.num _) VTs.nil))) (N+2*L) comT us 40 (hu.up (Kp.refl _ _) o_) L af_ vs 65 ht;obtain ⟨W,Y,C,hW,hz,U1,F,cN,cO⟩:=F0.add1 (N+2*L) comT (cp_ none 0 0) 40 (cy_ (cs_ _ _ _ _));rw [Av] at F cN cO hz;rw [As] at hW;have U:=U0.trans U1;have C0:=h_ (C w=[.slice A n c,i_ v,i_ s]) wp_;have C1:=h_ (C (w+1)=us) wq_;have C2:=h_ (C (w+2)=vs) wr_;have AI:=q_ (hco.go U (l_));have HL:=q_ (hl.go hco U);have HT:=q_ (ht.go U (l_));have HU:=q_ (hu.go U (l_));have HF:=q_ F;have x0:=F.cell (i:=3) rfl (j:=0) zz_;have x1:=F.cell (i:=3) rfl (j:=1) zz_;have x2:=F.cell (i:=3) rfl (j:=2) zz_;have Ar:W=(((w.alloc (.cells #[.slice A n c,i_ v,i_ s] 26)).alloc (.cells us.toArray 40)).alloc (.cells vs.toArray 65)).alloc (.cells zl3.toArray 40):=hW;clear hco hl hu ht hX U0 U1 F0 F c0 c1 c2 cN cO U hW As Av;go_enter func44,ntmps44;go_upto_region 1 with fail;rw [<-Ar];clear Ar;go_wp2_with fail;refine (ValidV_any A n c v s l W HL.o o_).mono ?_;rintro e W1 ⟨⟨vb,rfl,_⟩,hB⟩;have F1:=q_ (HF.o.call hB);have B1:=q_ hB;have BR:=q_ (F1.o.box (i:=0) rfl);have LR:=q_ (F1.o.len (i:=0) rfl);have HZ:=h_ (VTs W1 Y (N+2*L) comT (cp_ none 0 0)) (cy_ (cs_ _ _ _ _));have A7:=h_ ((cp_ none 0 0).length<=comT.length) (Nat.le_refl 10);clear hB x0 x1 x2;cases vb
 case false =>
  go_wp2_with (with_reducible refine ab_ rfl 40 (.tmp 6) (.tmp 12) rfl (cp_ none 0 0) w_ zo_ (BR.o.aj_ LR.o A7.o) (eb_ _ _ _) HZ.o.one ?_);obtain ⟨⟨f9,_⟩,hr⟩:=ret_com F1.o (i:=0) rfl HZ.o 1;exact ug_
 have A2:=q_ (HU.o.go (Up.of_below (Y:=Y) B1.o) (l_));have A0:=q_ (HT.o.go (Up.of_below (Y:=Y) B1.o) (l_));obtain ⟨HA,hn,hc,u0,HH⟩:=A2.o.slc (j:=0) (e:=objT) rfl;obtain ⟨Ak,u1⟩:=A2.o.num (j:=1) rfl;obtain ⟨AA,an,ac,u3,Ao⟩:=A2.o.slc (j:=3) (e:=actT) rfl;obtain ⟨en,u4⟩:=A2.o.tru (j:=4) rfl;obtain ⟨Aw,u8⟩:=A2.o.num (j:=8) rfl;obtain ⟨Ax,u9⟩:=A2.o.num (j:=9) rfl;obtain ⟨Aj,t0⟩:=A0.o.num (j:=0) rfl;obtain ⟨BA,bn,bc,A1,Ap⟩:=A0.o.slc (j:=41) (e:=actT) rfl;obtain ⟨st,A4⟩:=A0.o.num (j:=42) rfl;obtain ⟨nx,A5⟩:=A0.o.num (j:=43) rfl;obtain ⟨th,A8⟩:=A0.o.tru (j:=44) rfl;obtain ⟨Al,A9⟩:=A0.o.tru (j:=45) rfl;obtain ⟨Am,Aa⟩:=A0.o.num (j:=46) rfl;obtain ⟨AH,A6⟩:=A0.o.num (j:=47) rfl;have KU:=h_ (∀ (w':World),Fr X (fun _=>False) w [⟨w+3,fun _=>N+2*L,comT,noOw⟩,⟨w+2,fun _=>L,af_,noOw⟩,⟨w+1,fun _=>N+2*L,comT,noOw⟩,⟨w,fun _=>K,[.sl ay_,.num,.num],noOw⟩] Y C w'->(w'.cell? (a_ (w+1))=some (.slice HA hn hc)/\w'.cell? (f_ (w+1) 1)=some (i_ Ak)/\w'.cell? (f_ (w+1) 3)=some (.slice AA an ac)/\w'.cell? (f_ (w+1) 4)=some (.bool en)/\w'.cell? (f_ (w+1) 8)=some (i_ Aw)/\w'.cell? (f_ (w+1) 9)=some (i_ Ax))) (fun w' f=>⟨f.cell (i:=2) rfl (by rw [C1.o];exact u0),f.cell (i:=2) rfl (by rw [C1.o];exact u1),f.cell (i:=2) rfl (by rw [C1.o];exact u3),f.cell (i:=2) rfl (by rw [C1.o];exact u4),f.cell (i:=2) rfl (by rw [C1.o];exact u8),f.cell (i:=2) rfl (by rw [C1.o];exact u9)⟩);have A3:=h_ (∀ (w':World) (C':Nat->VL),C' (w+2)=C (w+2)->Fr X (fun _=>False) w [⟨w+3,fun _=>N+2*L,comT,noOw⟩,⟨w+2,fun _=>L,af_,noOw⟩,⟨w+1,fun _=>N+2*L,comT,noOw⟩,⟨w,fun _=>K,[.sl ay_,.num,.num],noOw⟩] Y C' w'->(w'.cell? (a_ (w+2))=some (i_ Aj)/\w'.cell? (f_ (w+2) 41)=some (.slice BA bn bc)/\w'.cell? (f_ (w+2) 42)=some (i_ st)/\w'.cell? (f_ (w+2) 43)=some (i_ nx)/\w'.cell? (f_ (w+2) 44)=some (.bool th)/\w'.cell? (f_ (w+2) 45)=some (.bool Al)/\w'.cell? (f_ (w+2) 46)=some (i_ Am)/\w'.cell? (f_ (w+2) 47)=some (i_ AH))) (fun w' C' hC f=>⟨f.cell (i:=1) rfl (by rw [hC,C2.o];exact t0),f.cell (i:=1) rfl (by rw [hC,C2.o];exact A1),f.cell (i:=1) rfl (by rw [hC,C2.o];exact A4),f.cell (i:=1) rfl (by rw [hC,C2.o];exact A5),f.cell (i:=1) rfl (by rw [hC,C2.o];exact A8),f.cell (i:=1) rfl (by rw [hC,C2.o];exact A9),f.cell (i:=1) rfl (by rw [hC,C2.o];exact Aa),f.cell (i:=1) rfl (by rw [hC,C2.o];exact A6)⟩);have Aq:=q_ HH;have Ay:=q_ Ao;have Az:=q_ Ap;have E3:=q_ u3;have E8:=q_ u8;have E9:=q_ u9;clear u0 u1 u3 u4 u8 u9 t0 A1 A4 A5 A8 A9 Aa A6 HH Ao Ap;obtain ⟨z0,z1,_,z4,_⟩:=KU.o _ F1.o;obtain ⟨t0,_⟩:=A3.out _ _ rfl F1.o;have Au:en=true\/Aj≠Ak\/(en=false/\Aj=Ak):=by cases en <;> simp <;> omega
 rcases Au with rfl | Au | ⟨rfl,rfl⟩
 ·exact v5_
 ·cases en
  all_goals
   exact v5_
 go_upto_region 5 with fail;have BT:=h_ (Bx W1 (w+2) vs) (by have:=F1.o.box (i:=1) rfl;rw [C2.o] at this;exact this);have IT:=h_ ((prog.info? 65).map (·.size)=some vs.length) (by rw [HT.o.1];exact av_);go_wp2_with (first | (with_reducible refine ac_ rfl 65 (.tmp 5) rfl _ underlying65 rfl v_ BT.o.whole IT.o ?_));refine (Check_t Y (N+2*L) HA hn hc L vs W1 (Aq.o.up (Kp.refl _ _) o_) o_ A0.o o_).mono ?_;rintro e W2 ⟨⟨ev,rfl⟩,Ad⟩;have B2:=q_ Ad;have F2:=q_ (F1.o.call Ad);clear z0 z1 z4 t0 BT Ad;by_cases hev:ev=0
 case neg =>
  have BR:=q_ (F2.o.box (i:=0) rfl);have HZ:=h_ (VTs W2 Y (N+2*L) comT (cp_ none 0 0)) (cy_ (cs_ _ _ _ _));go_wp2_with (with_reducible refine ab_ rfl 40 (.tmp 6) (.tmp 29) rfl (cp_ none 0 0) w_ zo_ (BR.o.aj_ LR.o A7.o) (eb_ _ _ _) HZ.o.one ?_);obtain ⟨⟨f9,_⟩,hr⟩:=ret_com F2.o (i:=0) rfl HZ.o ev;exact ug_
 case pos =>
 subst hev;have BT:=h_ (Bx W2 (w+2) vs) (by have:=F2.o.box (i:=1) rfl;rw [C2.o] at this;exact this);obtain ⟨z0,_⟩:=KU.o _ F2.o;have Ab:=q_ (Up.of_below (Y:=Y) B2.o);go_upto_region 8 with fail;go_wp2_with (first | (with_reducible refine ac_ rfl 65 (.tmp 5) rfl _ underlying65 rfl v_ BT.o.whole IT.o ?_));refine (Over_t Y N HA hn hc L vs W2 (Aq.o.go Ab.o (l_)) o_ (A0.o.go Ab.o (l_)) o_ F2.o.lt).mono ?_;rintro e W3 ⟨⟨OAx,on,oc,rfl,HO⟩,Ae⟩;have F3:=q_ (F2.o.call Ae);have AC:=q_ (Ab.o.trans (Up.of_below (Y:=Y) Ae));clear z0 BT Ae;obtain ⟨z0,_,z3,_⟩:=KU.o _ F3.o;obtain ⟨_,A1,_⟩:=A3.out _ _ rfl F3.o;have fz:=F3.o.fz (i:=2) rfl;obtain ⟨f4,u4⟩:=F3.o.set (i:=2) (j:=0) rfl rfl rfl HO.o.vt;obtain ⟨V4,Ah⟩:=ex_ (W3.setCell (a_ (w+1)) (.slice OAx on oc));rw [<-Ah] at f4 u4;have F4:=q_ f4;have Ac:=q_ (AC.o.trans u4);clear f4 u4;go_upto_region 9 with fail;rw [<-Ah];clear Ah z0 z3 A1 fz;have c4:=F4.o.cell (i:=2) rfl (j:=3) (v:=.slice AA an ac) (by rw [upd_same,C1.o,gs_,if_neg d_];exact E3.o);obtain ⟨_,A1,_⟩:=A3.out _ _ (ad_ _ _ o_) F4.o;go_wp2_with fail;refine (actions_t Y N L AA an ac BA bn bc V4 (Ay.o.go Ac.o (l_)) (Az.o.go Ac.o (l_)) o_ o_ F4.o.lt).mono ?_;rintro e W5 ⟨⟨QA,qn,qc,rfl,HQ⟩,Af⟩;have F5:=q_ (F4.o.call Af);have AD:=q_ (Ac.o.trans (Up.of_below (Y:=Y) Af));clear c4 A1 Af;have z3:=F5.o.cell (i:=2) rfl (j:=3) (v:=.slice AA an ac) (by rw [upd_same,C1.o,gs_,if_neg d_];exact E3.o);have fz:=F5.o.fz (i:=2) rfl;obtain ⟨f6,u6⟩:=F5.o.set (i:=2) (j:=3) rfl rfl rfl (v:=.slice QA qn qc) ((HQ.o.up (Kp.refl _ _) (show N+L<=N+2*L by omega)).vt);obtain ⟨V6,Ai⟩:=ex_ (W5.setCell (f_ (w+1) 3) (.slice QA qn qc));rw [<-Ai] at f6 u6;have F6:=q_ f6;have AE:=q_ (AD.o.trans u6);clear f6 u6;go_upto_region 10 with fail;rw [<-Ai];clear Ai z3 fz;have z8:=F6.o.cell (i:=2) rfl (j:=8) (v:=i_ Aw) (by rw [upd_same,gs_,if_neg d_,upd_same,C1.o,gs_,if_neg d_];exact E8.o);have z9:=F6.o.cell (i:=2) rfl (j:=9) (v:=i_ Ax) (by rw [upd_same,gs_,if_neg d_,upd_same,C1.o,gs_,if_neg d_];exact E9.o);obtain ⟨_,z1,AG⟩:=(F6.o.box (i:=2) rfl).2.1 |> fun h=>(show ∃ v,V6.cell? (f_ (w+1) 1)=some v from by obtain ⟨q,hq,AL⟩:=F6.o.num (i:=2) rfl (j:=1) rfl rfl;exact ⟨_,hq⟩) |> fun ⟨v,hv⟩=>(⟨v,hv,trivial⟩:∃ v,V6.cell? (f_ (w+1) 1)=some v/\True)
 obtain ⟨_,A1,A4,A5,A8,A9,Aa,A6⟩:=A3.out _ _ ((ad_ _ _ o_).trans (ad_ _ _ o_)) F6.o;have fz:=F6.o.fz (i:=2) rfl;obtain ⟨_,y4,_⟩:=F6.o.tru (i:=2) rfl (j:=4) rfl rfl;obtain ⟨_,y5,_⟩:=F6.o.tru (i:=2) rfl (j:=5) rfl rfl;obtain ⟨_,y6,_⟩:=F6.o.tru (i:=2) rfl (j:=6) rfl rfl;obtain ⟨_,y7,_⟩:=F6.o.num (i:=2) rfl (j:=7) rfl rfl;obtain ⟨C6,Ag⟩:=ex_ (upd (upd C (w+1) ((C (w+1)).set 0 (.slice OAx on oc))) (w+1) ((upd C (w+1) ((C (w+1)).set 0 (.slice OAx on oc)) (w+1)).set 3 (.slice QA qn qc)));have F7:=h_ (Fr X (fun _=>False) w [⟨w+3,fun _=>N+2*L,comT,noOw⟩,⟨w+2,fun _=>L,af_,noOw⟩,⟨w+1,fun _=>N+2*L,comT,noOw⟩,⟨w,fun _=>K,[.sl ay_,.num,.num],noOw⟩] Y C6 V6) (by rw [Ag];exact F6.o);have AB:=h_ (C6 (w+2)=C (w+2)) (by rw [Ag];exact (ad_ _ _ o_).trans (ad_ _ _ o_));clear Ag AG;have AM:(w:Nat)+3<V6:=F7.o.blt (i:=0) rfl;go_upto_if 54 with fail;go_cut [] (fun wx=>Hid (Fx X w [⟨w+3,fun _=>N+2*L,comT,noOw⟩,⟨w+2,fun _=>L,af_,noOw⟩,⟨w+1,fun _=>N+2*L,comT,noOw⟩,⟨w,fun _=>K,[.sl ay_,.num,.num],noOw⟩] (w+1) Y C6 V6 wx))
 case first =>
  by_cases hst:st=2
  case pos =>
   go_wp2_with fail;go_meet;refine q_ ?_
   repeat (first | with_reducible exact Fx.start F7.o _ | with_reducible refine Fx.drew ?_ | refine Fx.set (i:=2) ?_ rfl rfl rfl (.num _) | refine Fx.set (i:=2) ?_ rfl rfl rfl (.tru _))
  have K0:=h_ (∀ w':World,Fx X w [⟨w+3,fun _=>N+2*L,comT,noOw⟩,⟨w+2,fun _=>L,af_,noOw⟩,⟨w+1,fun _=>N+2*L,comT,noOw⟩,⟨w,fun _=>K,[.sl ay_,.num,.num],noOw⟩] (w+1) Y C6 V6 w'->(w'.cell? (f_ (w+2) 44)=some (.bool th)/\w'.cell? (f_ (w+2) 45)=some (.bool Al)/\w'.cell? (f_ (w+2) 46)=some (i_ Am))) (fun w' hf=>by
   obtain ⟨C',f,hC,_⟩:=hf
   obtain ⟨_,_,_,_,q4,q5,q6,_⟩:=A3.out w' C' ((hC _ o_).trans AB.o) f
   exact ⟨q4,q5,q6⟩)
  clear A1 A4 A5 A6 z8 z9 z1;go_upto_region 14 with fail;refine am_ (S:=fun w':World=>w'.cell? (f_ (w+2) 44)=some (.bool th)/\w'.cell? (f_ (w+2) 45)=some (.bool Al)/\w'.cell? (f_ (w+2) 46)=some (i_ Am)) rfl (K0.o _ (by repeat (first | with_reducible exact Fx.start F7.o _ | with_reducible refine Fx.drew ?_ | refine Fx.set (i:=2) ?_ rfl rfl rfl (.num _)))) (fun _=>?_);go_simp;refine aa_ 0 58 ?_;refine aa_ 1 59 ?_;refine aa_ 2 60 ?_;refine aa_ 3 61 ?_;refine aa_ 4 62 ?_;refine aw_ 5 k_ rfl (fun K hK=>?_);go_simp;refine hK.out _ _ (K0.o _ zh_) (fun _=>?_);refine aa_ 6 63 ?_;refine aw_ 7 k_ rfl (fun K hK=>?_);go_simp;refine hK.out _ _ (K0.o _ zh_) (fun _=>?_);refine aa_ 8 64 ?_;refine aw_ 9 k_ rfl (fun K hK=>?_);go_simp;refine hK.out _ _ (K0.o _ zh_) (fun _=>?_);try simp only [Act.put,sA,s0,s1]
  refine wpAnyH_done k_ ?_ _;go_wp2_with fail;go_meet;exact q_ zh_
 rename World=>W8
 obtain ⟨C8,An,AF,U8⟩:=hcut.o;have F8:=q_ An;have AJ:=q_ (AE.o.trans U8);clear z8 z9 z1 A1 A4 A5 A8 A9 Aa A6 fz y4 y5 y6 y7 hcut An AF U8 BR LR HZ;have BS:=q_ (F8.o.box (i:=2) rfl);have IS:=q_ (F8.o.info (i:=2) rfl dy_);have BR:=q_ (F8.o.box (i:=0) rfl);have LR:=q_ (F8.o.len (i:=0) rfl);have HZ:=q_ (F8.o.whole (i:=2) rfl);go_wp2_with (first | (with_reducible refine ac_ rfl 40 (.tmp 4) rfl _ underlying40 rfl v_ BS.o.whole IS.o ?_) | (with_reducible refine ab_ rfl 40 (.tmp 6) (.tmp 65) rfl (C8 (w+1)) w_ v_ (BR.o.aj_ LR.o (Nat.le_of_eq HZ.o.len)) IS.o HZ.o.one ?_));obtain ⟨⟨f9,_⟩,hr⟩:=ret_com F8.o (i:=0) rfl HZ.o 0;exact ug_
end Go.Proofs.YtfolidlmgfhkiaaGreat
