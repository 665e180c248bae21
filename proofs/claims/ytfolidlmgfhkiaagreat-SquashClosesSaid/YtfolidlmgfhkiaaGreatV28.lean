/- Lemmas on functions of the program, under the conditions that each states. -/
import Derived.Test.YtfolidlmgfhkiaaGreatV27
set_option linter.unusedVariables false
set_option linter.unusedSimpArgs false
set_option maxRecDepth 100000
set_option maxHeartbeats 8000000
namespace Go.Proofs.YtfolidlmgfhkiaaGreat
open Go.RowKit Go.Proofs.Tryz
def ee_:List CT:=[.sl objT] ++ cpuT ++ [.num,.num,.sl actT,.tru,.tru,.tru,.num,.num]
theorem isz_140:(prog.info? 140).map (·.size)=some ee_.length:=by kernel_rfl
def RState (X:NP) (K:Nat) (e:Ending) (w:World):Prop:=∃ (us:VL) (ev:Int),e=.returned (.tuple #[.agg us.toArray,i_ ev])/\VTs w X K ee_ us
def er_:VL:=[.slice none 0 0,i_ 0,.bool false,i_ 0,.bool false,i_ 0,.bool false,i_ 0,.bool false,i_ 0,.bool false,i_ 0,.bool false,i_ 0,.bool false,i_ 0,.bool false,i_ 0,.bool false,i_ 0,.bool false,i_ 0,.bool false,i_ 0,.bool false,i_ 0,.bool false,i_ 0,.bool false,i_ 0,.bool false,i_ 0,.bool false,i_ 0,i_ 0,i_ 0,.slice none 0 0,.bool false,.bool false,.bool false,i_ 0,i_ 0]
theorem ej_ {X:NP} {w:World} {K:Nat}:VTs w X K ee_ er_:=ax_ K ee_
theorem isz_zeroState:(prog.info? 140).map (·.size)=some er_.length:=isz_140
def stNew (g:Nat):VL:=[.slice (some (a_ g)) 2 2,i_ 0,.bool false,i_ 0,.bool false,i_ 0,.bool false,i_ 0,.bool false,i_ 0,.bool false,i_ 0,.bool false,i_ 0,.bool false,i_ 0,.bool false,i_ 0,.bool false,i_ 0,.bool false,i_ 0,.bool false,i_ 0,.bool false,i_ 0,.bool false,i_ 0,.bool false,i_ 0,.bool false,i_ 0,.bool false,i_ 0,i_ 3,i_ 0,.slice none 0 0,.bool false,.bool false,.bool false,i_ 0,i_ 0]
theorem isz_stNew (g:Nat):(prog.info? 140).map (·.size)=some (stNew g).length:=isz_140
theorem vts_stNew {X:NP} {w:World} {K g:Nat} (h:SlT w X K objT (some (a_ g)) 2 2):VTs w X K ee_ (stNew g) :=
 (ej_.set (j:=0) (t:=.sl objT) rfl h.vt).set (j:=34) (t:=.num) rfl (.num 3)
theorem ret_state {X:NP} {w0 w:World} {L:List LV} {Y:NP} {C:Nat->VL} {i b N:Nat} {us:VL} (F:Fr X (fun _=>False) w0 L Y C w) (hp:L[i]?=some ⟨b,fun _=>N,ee_,noOw⟩) (hv:VTs w Y N ee_ us) (ev:Int) :
  (∃ f2:Fr X (fun _=>False) w0 L Y (upd C b us) (w.setCells b 0 us),True)/\RState X N (.returned (.tuple #[.agg (upd C b us b).toArray,i_ ev])) (w.setCells b 0 us)/\Below w0 w0 (w.setCells b 0 us):=by
 exact vy_
theorem wpList_make_t {P:Program} {w:World} {ops:Array Oper} {rest:List Oper} {o:Oper} {a:Act} {Q:Exit->Act->World->Prop} (hg:o.guard=none) (l c:Operand) (t et:TypeId) (hop:o.op=Op.makeSlice t l c) (base:Nat) (i:TypeInfo) (z:Value) (bytes:Nat) (kl kc:IntKind) (e:List CT) (X:NP) (K:Nat) (ht:P.underlying t=some (.slice et)) (hi:P.info? et=some i) (hz:i.zero=some z)
  (hsize:i.size=e.length) (hby:i.bytes=bytes) (hzc:z.cells=(e.map CT.zero).toArray) (hzk:e.all CT.zok=true) (hsz:0<e.length) (L C:Int) (m:Nat) (hl:a.eval l=.int kl L) (hc:a.eval c=.int kc C) (hL:L=(m:Int)) (hC:C=(m:Int)) (hX:∀ k,X k->k<w) (h63:m<=maxLen) (hbytes:bytes*m<=281474976710656) (hbase:base<=w)
  (h:∀ w',OwT w' base et e X K (some (a_ w)) m m->Below w w w'->wpList P ops Q rest (a.put o.dst (.slice (some (a_ w)) m m)) w'):wpList P ops Q (o :: rest) a w:=by
 refine wpList_plain hg fun K' A1=>?_
 obtain ⟨w',A0,r1,r2⟩:=run_make_t (P:=P) w base t et i z bytes kl kc e X K ht hi hz hsize hby hzc hzk hsz m hX h63 hbytes hbase;subst hL hC;unfold Oper.wp;simp [execOp,hop,hl,hc,A0,Result.andThen];exact A1 _ _ (h w' r1 r2)
theorem wpList_make_val {w:World} {ops:Array Oper} {rest:List Oper} {o:Oper} {a:Act} {Q:Exit->Act->World->Prop} (hg:o.guard=none) (l c:Operand) (hop:o.op=Op.makeSlice 88 l c) (base:Nat) (X:NP) (K:Nat)
  (L C:Int) (m:Nat) (hl:a.eval l=i_ L) (hc:a.eval c=i_ C) (hL:L=(m:Int)) (hC:C=(m:Int)) (hX:∀ k,X k->k<w) (h63:m<=1000) (hbase:base<=w)
  (h:∀ w',OwT w' base 38 valT X K (some (a_ w)) m m->Below w w w'->wpList prog ops Q rest (a.put o.dst (.slice (some (a_ w)) m m)) w'):wpList prog ops Q (o :: rest) a w:=by
 obtain ⟨i0,A2,A0⟩:=Option.map_eq_some_iff.1 infoVa;simp only [Prod.mk.injEq] at A0;obtain ⟨A4,A3,A1⟩:=A0;exact wpList_make_t hg l c 88 38 hop base i0 _ 16 .i64 .i64 valT X K underlying88 A2 A4 A3 A1 rfl rfl d_ L C m hl hc hL hC hX m_ o_ hbase h
theorem own_fresh {w:World} {base:Nat} {et:TypeId} {e:List CT} {X:NP} {K m c g:Nat} (h:OwT w base et e X K (some (a_ g)) m c) (k j:Nat) {t:CT} (hk:k<m) (hj:e[j]?=some t):(∃ u,w.cell? ⟨g,k*e.length+j,none⟩=some u)/\∀ q,w.frozen? (f_ g q)=false:=by
 obtain ⟨xs,ho,hx⟩:=h;obtain ⟨u,hu,_⟩:=hx k j t hk hj;have A1:j<e.length:=(e_ hj).1;have A0:k*e.length+j<m*e.length:=by
  exact v1_
 exact ⟨⟨u,wm_⟩,fun q=>ho.frozenAt q⟩
theorem Start_t (X:NP) (K:Nat) (A:OA) (n c:Nat) (v s:Int) (l:List In) (w:World) (hco:SlT w X K aw_ A n c) (hl:Sl w w 5 In.cells A n l) (hK:K<=900000000) (hX:∀ k,X k->k<w) :
  Calls prog 71 #[.agg #[.slice A n c,i_ v,i_ s]] w fun e w'=>RState X 100 e w'/\Below w w w':=by
 have Aq:=hco.le;obtain ⟨W,Y,C,hW,hz,U,F,c0,c1⟩:=Fr.start2 hX K [.sl aw_,.num,.num] [.slice A n c,i_ v,i_ s] 26 (VTs.cons hco.vt (VTs.cons (.num _) (VTs.cons (.num _) VTs.nil))) 100 ee_ er_ 140 ej_;have C0:=q_ c0;have HL:=q_ (hl.go hco U);have HF:=q_ F;have x0:=F.cell (i:=1) rfl (j:=0) y3_;have x1:=F.cell (i:=1) rfl (j:=1) y3_;have x2:=F.cell (i:=1) rfl (j:=2) y3_;have A8:W=(w.alloc (.cells #[.slice A n c,i_ v,i_ s] 26)).alloc (.cells zl2.toArray 140):=hW;clear hco hl hX U F c0 c1 hW;go_enter func71,ntmps71;go_upto_region 1 with fail;rw [<-A8];clear A8;go_wp2_with fail;refine (ValidV_any A n c v s l W HL.o o_).mono ?_;rintro e W1 ⟨⟨vb,rfl,hv⟩,hB⟩;have F1:=q_ (HF.o.call hB);have BR:=q_ (F1.o.box (i:=0) rfl);have LR:=q_ (F1.o.len (i:=0) rfl);have HZ:=h_ (VTs W1 Y 100 ee_ er_) ej_;have HV:=q_ hv;clear hB x0 x1 x2 hv;cases vb
 case false =>
  go_wp2_with (with_reducible refine ab_ rfl 140 (.tmp 2) (.tmp 9) rfl er_ w_ (by simp [Act.eval,Act.put,er_]) (BR.o.ai_ LR.o d_) isz_zeroState HZ.o.one ?_);obtain ⟨⟨f2,_⟩,hr⟩:=ret_state F1.o (i:=0) rfl HZ.o 1;exact u3_
 obtain ⟨⟨_,_⟩,Au,Av⟩:=HV.o rfl;obtain ⟨vn,rfl⟩:∃ vn:Nat,v=vn:=⟨v.toNat,o_⟩;have Aw:(w:Nat)+1<W1:=F1.o.blt (i:=0) rfl;go_upto_region 3 with fail;go_cut [4] (fun p wx=>∃ q g:Nat,p=.pointer (some (a_ q))/\W1<=g/\g<q/\Hid (Bx wx q [i_ 1,.slice (some (a_ g)) 3 3])/\Hid (OwT wx W1 38 valT Y 100 (some (a_ g)) 3 3)/\Hid (Below W1 W1 wx))
 case first =>
  go_wp2_with (with_reducible refine wpList_make_val rfl _ _ rfl W1 Y 100 3 3 3 zc_ zc_ o_ o_ (fun k hk=>F1.o.lt k hk) o_ o_ ?_;intro w4 o4 b4;have O4:=q_ o4;have B4:=q_ b4;have z4:=b4.size;clear o4 b4);go_meet;exact ⟨_,W1,rfl,l_,by obtain ⟨xs,ho,_⟩:=O4.o;exact (am_ ho rfl).2,q_ (Bx.new w4 [i_ 1,.slice (some (a_ W1)) 3 3] 90),q_ (O4.o.below ((b_).alloc (l_) _)),q_ (B4.o.alloc z4 _)⟩
 rename World=>W2
 obtain ⟨q,g,rfl,hg,Ap,A2,A3,Aj⟩:=hcut;have As:q<W2:=A2.o.1;obtain ⟨⟨u0,y0⟩,fy⟩:=own_fresh A3.o 0 0 o_ rfl;obtain ⟨⟨u1,y1⟩,_⟩:=own_fresh A3.o 0 1 o_ rfl;simp only [Nat.zero_mul,Nat.zero_add] at y0 y1;have r1:=A2.o.2.1 1 _ rfl;obtain ⟨U,hU⟩:=ex_ ((W2.setCell (a_ g) (.bool true)).setCell (f_ g 1) (i_ 2));have OU:=q_ (show OwT U W1 38 valT Y 100 (some (a_ g)) 3 3 from by
  rw [hU]
  exact (A3.o.set (k:=0) (j:=0) (t:=.tru) (u:=.bool true) o_ rfl (.tru _) _ rfl).set (k:=0) (j:=1) (t:=.num) (u:=i_ 2) o_ rfl (.num _) _ rfl)
 have BU:=h_ (Bx U q [i_ 1,.slice (some (a_ g)) 3 3]) (by rw [hU];exact (A2.o.far (by show g≠q;omega) _).far (by show g≠q;omega) _);have bU:=h_ (Below W1 W1 U) (by rw [hU];exact (Aj.o.setCell (by exact hg) _).setCell (by exact hg) _);have Ar:q<U:=BU.o.1;go_upto_region 5 with fail;rw [<-hU];clear hU y0 y1 fy r1;have x1:U.cell? (f_ w 1)=some (i_ (vn:Int)):=(F1.o.call bU.o).cell (i:=1) rfl zw_;go_upto_region 6 with (with_reducible refine wpList_make_val rfl (.tmp 18) (.tmp 18) rfl W1 Y 100 (3+(vn:Int)) (3+(vn:Int)) (3+vn) zc_ zc_ o_ o_ (fun k hk=>lt_ (F1.o.lt k hk) bU.o.size) o_ bU.o.size ?_;intro w4 o4 b4;have O4:=q_ o4;have B4:=q_ b4;clear o4 b4 x1);obtain ⟨V,hV,A9,Ai,BV⟩:=af_ w4 [i_ 2,.slice (some (a_ U)) (3+vn) (3+vn)] 90;rw [<-hV];clear hV;have OV:=q_ (O4.o.below A9);have Ah:=B4.o.size;have A4:Below U U V:=B4.o.trans (A9.mono Ah);have Af:=q_ (OU.o.below A4);have Ab:=q_ (BU.o.below A4);have bV:=q_ (bU.o.trans (A4.mono bU.o.size));have Ac:=q_ BV;clear Ai;have Al:(U:Nat)<w4:=by
  obtain ⟨xs,ho,_⟩:=O4.o;exact (am_ ho rfl).2
 obtain ⟨⟨u0,y0⟩,fy⟩:=own_fresh OV.o 0 0 o_ rfl;obtain ⟨⟨u1,y1⟩,_⟩:=own_fresh OV.o 0 1 o_ rfl;simp only [Nat.zero_mul,Nat.zero_add] at y0 y1;have r1:=BV.2.1 1 _ rfl;have Ag:(0:Int)<((3+vn:Nat):Int):=by omega
 obtain ⟨T,hT⟩:=ex_ ((V.setCell (a_ U) (.bool true)).setCell (f_ U 1) (i_ 0));have OT:=q_ (show OwT T W1 38 valT Y 100 (some (a_ U)) (3+vn) (3+vn) from by
  rw [hT]
  exact (OV.o.set (k:=0) (j:=0) (t:=.tru) (u:=.bool true) o_ rfl (.tru _) _ rfl).set (k:=0) (j:=1) (t:=.num) (u:=i_ 0) o_ rfl (.num _) _ rfl)
 have hne:U≠q:=by omega
 have A1:(U:Nat)≠w4:=by omega
 have A7:=h_ (Bx T q [i_ 1,.slice (some (a_ g)) 3 3]) (by rw [hT];exact (Ab.o.far hne _).far hne _);have A6:=h_ (Bx T w4 [i_ 2,.slice (some (a_ U)) (3+vn) (3+vn)]) (by rw [hT];exact (Ac.o.far A1 _).far A1 _);have A0:(W1:Nat)<=U:=bU.o.size;have bT:=h_ (Below W1 W1 T) (by rw [hT];exact (bV.o.setCell (by exact A0) _).setCell (by exact A0) _);have Ae:=q_ (show OwT T W1 38 valT Y 100 (some (a_ g)) 3 3 from by
  have Ak:g≠U:=by omega
  have An:V.grownBy T (some U):=by
   rw [hT]
   have hk:Kp (fun k=>k=U) V ((V.setCell (a_ U) (.bool true)).setCell (f_ U 1) (i_ 0)):=((Kp.refl (fun k=>k=U) V).setCell (p:=(a_ U)) (.inl rfl) _).setCell (p:=(f_ U 1)) (.inl rfl) _
   exact ⟨hk.os,hk.tape,hk.output,hk.size,fun k Ao hne=>hk.block k Ao (fun e=>hne xq_)⟩
  obtain ⟨xs,ho,hx⟩:=Af.o
  refine ⟨xs,ho.kept An (.inr (fun e=>by injection e with e;exact Ak e)),fun k j t hk hj=>?_⟩
  obtain ⟨u,hu,hv⟩:=hx k j t hk hj
  refine ⟨u,hu,?_⟩
  have Am:j<2:=(e_ hj).1
  match j,Am,hj with
  | 0,_,hj=>injection hj with hj;subst hj;obtain ⟨x,rfl⟩:=hv.bool;exact .tru _
  | 1,_,hj=>injection hj with hj;subst hj;obtain ⟨x,rfl⟩:=hv.int;exact .num _)
 go_upto_region 7 with fail;rw [<-hT];clear hT y0 y1 fy r1;have t0:=A7.o.2.1 0 _ rfl;have t1:=A7.o.2.1 1 _ rfl;have s0:=A6.o.2.1 0 _ rfl;have s1:=A6.o.2.1 1 _ rfl;have F7:=q_ (F1.o.call (bT.o.alloc bT.o.size (.cells #[i_ 1,.slice (some (a_ g)) 3 3,i_ 2,.slice (some (a_ U)) (3+vn) (3+vn)] 90)));have BR:=q_ (F7.o.box (i:=0) rfl);have LR:=q_ (F7.o.len (i:=0) rfl);have Ad:=h_ ((stNew T).length<=ee_.length) (Nat.le_refl 42);have US:=q_ (show VTs (T.alloc (.cells #[i_ 1,.slice (some (a_ g)) 3 3,i_ 2,.slice (some (a_ U)) (3+vn) (3+vn)] 90)) Y 100 ee_ (stNew T) from by
  have A5:∀ k,Y k->k<W1:=fun k hk=>F1.o.lt k hk
  have Aa:Kp Y T (T.alloc (.cells #[i_ 1,.slice (some (a_ g)) 3 3,i_ 2,.slice (some (a_ U)) (3+vn) (3+vn)] 90)):=(Kp.refl _ _).alloc _
  have s1:=(Ae.o.slT A5 o_).up Aa (l_)
  have s2:=(OT.o.slT A5 o_).up Aa (l_)
  have hb:=Bx.new T [i_ 1,.slice (some (a_ g)) 3 3,i_ 2,.slice (some (a_ U)) (3+vn) (3+vn)] 90
  exact vts_stNew (SlP.two (p:=fun _=>True) (us:=[i_ 1,.slice (some (a_ g)) 3 3]) (vs:=[i_ 2,.slice (some (a_ U)) (3+vn) (3+vn)]) hb (fun hy=>by have:=A5 _ hy;have:=bT.o.size;omega) o_ (VTs.cons (.num _) (VTs.cons s1.vt VTs.nil)) trivial (VTs.cons (.num _) (VTs.cons s2.vt VTs.nil)) trivial).sl)
 go_wp2_with (with_reducible refine ab_ rfl 140 (.tmp 2) (.tmp 29) rfl (stNew T) w_ (by simp [Act.eval,Act.put,stNew]) (BR.o.ai_ LR.o Ad.o) (isz_stNew _) US.o.one ?_);obtain ⟨⟨f2,_⟩,hr⟩:=ret_state F7.o (i:=0) rfl US.o 0;exact u3_
end Go.Proofs.YtfolidlmgfhkiaaGreat
