/- Lemmas: each says what a function of the program leaves, under the conditions that it states. -/
import Derived.Test.YtfolidlmgfhkiaaGreatZ35
import Derived.Test.YtfolidlmgfhkiaaGreatZ18
set_option linter.unusedVariables false
set_option linter.unusedSimpArgs false
set_option maxRecDepth 100000
set_option maxHeartbeats 8000000
namespace Go.Proofs.YtfolidlmgfhkiaaGreat
open Go.RowKit Go.Proofs.Tryz
def ef_:List CT:=[.sl objT] ++ cpuT ++ [.num,.num,.sl actT,.tru,.tru,.tru,.num,.num]
theorem isz_140:(prog.info? 140).map (·.size)=some ef_.length:=by kernel_rfl
def RState (X:NP) (K:Nat) (e:Ending) (w:World):Prop:=∃ (us:VL) (ev:Int),e=.returned (.tuple #[.agg us.toArray,i_ ev])/\VTs w X K ef_ us
def ez_:VL:=[.slice none 0 0,i_ 0,.bool false,i_ 0,.bool false,i_ 0,.bool false,i_ 0,.bool false,i_ 0,.bool false,i_ 0,.bool false,i_ 0,.bool false,i_ 0,.bool false,i_ 0,.bool false,i_ 0,.bool false,i_ 0,.bool false,i_ 0,.bool false,i_ 0,.bool false,i_ 0,.bool false,i_ 0,.bool false,i_ 0,.bool false,i_ 0,i_ 0,i_ 0,.slice none 0 0,.bool false,.bool false,.bool false,i_ 0,i_ 0]
theorem em_ {X:NP} {w:World} {K:Nat}:VTs w X K ef_ ez_:=az_ K ef_
theorem isz_zeroState:(prog.info? 140).map (·.size)=some ez_.length:=isz_140
def stNew (g:Nat):VL:=[.slice (some (a_ g)) 2 2,i_ 0,.bool false,i_ 0,.bool false,i_ 0,.bool false,i_ 0,.bool false,i_ 0,.bool false,i_ 0,.bool false,i_ 0,.bool false,i_ 0,.bool false,i_ 0,.bool false,i_ 0,.bool false,i_ 0,.bool false,i_ 0,.bool false,i_ 0,.bool false,i_ 0,.bool false,i_ 0,.bool false,i_ 0,.bool false,i_ 0,i_ 3,i_ 0,.slice none 0 0,.bool false,.bool false,.bool false,i_ 0,i_ 0]
theorem isz_stNew (g:Nat):(prog.info? 140).map (·.size)=some (stNew g).length:=isz_140
theorem vts_stNew {X:NP} {w:World} {K g:Nat} (h:SlT w X K objT (some (a_ g)) 2 2):VTs w X K ef_ (stNew g) :=
 (em_.set (j:=0) (t:=.sl objT) rfl h.vt).set (j:=34) (t:=.num) rfl (.num 3)
theorem ret_state {X:NP} {w0 w:World} {L:List LV} {Y:NP} {C:Nat->VL} {i b N:Nat} {us:VL} (F:Fr X (fun _=>False) w0 L Y C w) (hp:L[i]?=some ⟨b,fun _=>N,ef_,noOw⟩) (hv:VTs w Y N ef_ us) (ev:Int) :
  (∃ f2:Fr X (fun _=>False) w0 L Y (upd C b us) (w.setCells b 0 us),True)/\RState X N (.returned (.tuple #[.agg (upd C b us b).toArray,i_ ev])) (w.setCells b 0 us)/\Below w0 w0 (w.setCells b 0 us):=by
 obtain ⟨f2,u2⟩:=F.sets (i:=i) hp hv;exact ⟨⟨f2,trivial⟩,⟨_,ev,rfl,(f2.whole hp).less (fun k _ hk=>f2.sub k hk)⟩,f2.below⟩
theorem wpList_make_t {P:Program} {w:World} {ops:Array Oper} {rest:List Oper} {o:Oper} {a:Act} {Q:Exit->Act->World->Prop} (hg:o.guard=none) (l c:Operand) (t et:TypeId) (hop:o.op=Op.makeSlice t l c) (base:Nat) (i:TypeInfo) (z:Value) (bytes:Nat) (kl kc:IntKind) (e:List CT) (X:NP) (K:Nat) (ht:P.underlying t=some (.slice et)) (hi:P.info? et=some i) (hz:i.zero=some z)
  (hsize:i.size=e.length) (hby:i.bytes=bytes) (hzc:z.cells=(e.map CT.zero).toArray) (hzk:e.all CT.zok=true) (hsz:0<e.length) (L C:Int) (m:Nat) (hl:a.eval l=.int kl L) (hc:a.eval c=.int kc C) (hL:L=(m:Int)) (hC:C=(m:Int)) (hX:∀ k,X k->k<w) (h63:m<=maxLen) (hbytes:bytes*m<=281474976710656) (hbase:base<=w)
  (h:∀ w',OwT w' base et e X K (some (a_ w)) m m->Below w w w'->wpList P ops Q rest (a.put o.dst (.slice (some (a_ w)) m m)) w'):wpList P ops Q (o :: rest) a w:=by
 refine wpList_plain hg fun K' A1=>?_
 obtain ⟨w',A0,r1,r2⟩:=run_make_t (P:=P) w base t et i z bytes kl kc e X K ht hi hz hsize hby hzc hzk hsz m hX h63 hbytes hbase;subst hL hC;unfold Oper.wp;simp [execOp,hop,hl,hc,A0,Result.andThen];exact A1 _ _ (h w' r1 r2)
theorem wpList_make_val {w:World} {ops:Array Oper} {rest:List Oper} {o:Oper} {a:Act} {Q:Exit->Act->World->Prop} (hg:o.guard=none) (l c:Operand) (hop:o.op=Op.makeSlice 88 l c) (base:Nat) (X:NP) (K:Nat)
  (L C:Int) (m:Nat) (hl:a.eval l=i_ L) (hc:a.eval c=i_ C) (hL:L=(m:Int)) (hC:C=(m:Int)) (hX:∀ k,X k->k<w) (h63:m<=1000) (hbase:base<=w)
  (h:∀ w',OwT w' base 38 valT X K (some (a_ w)) m m->Below w w w'->wpList prog ops Q rest (a.put o.dst (.slice (some (a_ w)) m m)) w'):wpList prog ops Q (o :: rest) a w:=by
 obtain ⟨i0,A2,A0⟩:=Option.map_eq_some_iff.1 infoVa;simp only [Prod.mk.injEq] at A0;obtain ⟨A4,A3,A1⟩:=A0;exact wpList_make_t hg l c 88 38 hop base i0 _ 16 .i64 .i64 valT X K underlying88 A2 A4 A3 A1 rfl rfl d_ L C m hl hc hL hC hX m_ o_ hbase h
theorem own_fresh {w:World} {base:Nat} {et:TypeId} {e:List CT} {X:NP} {K m c g:Nat} (h:OwT w base et e X K (some (a_ g)) m c) (k j:Nat) {t:CT} (hk:k<m) (hj:e[j]?=some t):(∃ u,w.cell? ⟨g,k*e.length+j,none⟩=some u)/\∀ q,w.frozen? (f_ g q)=false:=by
 obtain ⟨xs,ho,hx⟩:=h;obtain ⟨u,hu,_⟩:=hx k j t hk hj;have A1:j<e.length:=(e_ hj).1;have A0:k*e.length+j<m*e.length:=by
  have:(k+1)*e.length<=m*e.length:=Nat.mul_le_mul_right _ hk;rw [Nat.add_mul] at this;omega
 exact ⟨⟨u,by rw [ho.cellAt _ A0];exact hu⟩,fun q=>ho.frozenAt q⟩
theorem Start_t (X:NP) (K:Nat) (A:OA) (n c:Nat) (v s:Int) (l:List In) (w:World) (hco:SlT w X K aw_ A n c) (hl:Sl w w 5 In.cells A n l) (hK:K<=900000000) (hX:∀ k,X k->k<w) :
  Calls prog 71 #[.agg #[.slice A n c,i_ v,i_ s]] w fun e w'=>RState X 100 e w'/\Below w w w':=by
 have Aq:=hco.le;obtain ⟨W,Y,C,hW,hz,U,F,c0,c1⟩:=Fr.start2 hX K [.sl aw_,.num,.num] [.slice A n c,i_ v,i_ s] 26 (VTs.cons hco.vt (VTs.cons (.num _) (VTs.cons (.num _) VTs.nil))) 100 ef_ ez_ 140 em_;have C0:=q_ c0;have HL:=q_ (hl.go hco U);have HF:=q_ F;have x0:=F.cell (i:=1) rfl (j:=0) (by rw [c0];rfl);have x1:=F.cell (i:=1) rfl (j:=1) (by rw [c0];rfl);have x2:=F.cell (i:=1) rfl (j:=2) (by rw [c0];rfl);have A8:W=(w.alloc (.cells #[.slice A n c,i_ v,i_ s] 26)).alloc (.cells zl2.toArray 140):=hW;clear hco hl hX U F c0 c1 hW;go_enter func71,ntmps71;go_upto_region 1 with fail;rw [←A8];clear A8;go_wp2_with fail;refine (ValidV_any A n c v s l W HL.o o_).mono ?_;rintro e W1 ⟨⟨vb,rfl,hv⟩,hB⟩;have F1:=q_ (HF.o.call hB);have BR:=q_ (F1.o.box (i:=0) rfl);have LR:=q_ (F1.o.len (i:=0) rfl);have HZ:=h_ (VTs W1 Y 100 ef_ ez_) em_;have HV:=q_ hv;clear hB x0 x1 x2 hv;cases vb
 case false =>
  go_wp2_with (with_reducible refine ab_ rfl 140 (.tmp 2) (.tmp 9) rfl ez_ w_ (by simp [Act.eval,Act.put,ez_]) (BR.o.ah_ LR.o d_) isz_zeroState HZ.o.one ?_);obtain ⟨⟨f2,_⟩,hr⟩:=ret_state F1.o (i:=0) rfl HZ.o 1;refine bh_ results71 (by rfl) underlying140 rfl (f2.info (i:=0) rfl isz_140) (f2.box (i:=0) rfl).whole rfl ?_;exact hr
 obtain ⟨⟨_,_⟩,Au,Av⟩:=HV.o rfl;obtain ⟨vn,rfl⟩:∃ vn:Nat,v=vn:=⟨v.toNat,o_⟩;have Aw:(w:Nat)+1<W1:=F1.o.blt (i:=0) rfl;go_upto_region 3 with fail;go_cut [4] (fun p wx=>∃ q g:Nat,p=.pointer (some (a_ q))/\W1<=g/\g<q/\Hid (Bx wx q [i_ 1,.slice (some (a_ g)) 3 3])/\Hid (OwT wx W1 38 valT Y 100 (some (a_ g)) 3 3)/\Hid (Below W1 W1 wx))
 case first =>
  go_wp2_with (with_reducible refine wpList_make_val rfl _ _ rfl W1 Y 100 3 3 3 (by simp [Act.eval]) (by simp [Act.eval]) o_ o_ (fun k hk=>F1.o.lt k hk) o_ o_ ?_;intro w4 o4 b4;have O4:=q_ o4;have B4:=q_ b4;have z4:=b4.size;clear o4 b4);go_meet;exact ⟨_,W1,rfl,l_,by obtain ⟨xs,ho,_⟩:=O4.o;exact (an_ ho rfl).2,q_ (Bx.new w4 [i_ 1,.slice (some (a_ W1)) 3 3] 90),q_ (O4.o.below ((b_).alloc (l_) _)),q_ (B4.o.alloc z4 _)⟩
 rename World=>W2
 obtain ⟨q,g,rfl,hg,Ap,A2,A3,Aj⟩:=hcut;have As:q<W2:=A2.o.1;obtain ⟨⟨u0,y0⟩,fy⟩:=own_fresh A3.o 0 0 o_ rfl;obtain ⟨⟨u1,y1⟩,_⟩:=own_fresh A3.o 0 1 o_ rfl;simp only [Nat.zero_mul,Nat.zero_add] at y0 y1;have r1:=A2.o.2.1 1 _ rfl;obtain ⟨U,hU⟩:=ex_ ((W2.setCell (a_ g) (.bool true)).setCell (f_ g 1) (i_ 2));have OU:=q_ (show OwT U W1 38 valT Y 100 (some (a_ g)) 3 3 from by
  rw [hU]
  exact (A3.o.set (k:=0) (j:=0) (t:=.tru) (u:=.bool true) o_ rfl (.tru _) _ rfl).set (k:=0) (j:=1) (t:=.num) (u:=i_ 2) o_ rfl (.num _) _ rfl)
 have BU:=h_ (Bx U q [i_ 1,.slice (some (a_ g)) 3 3]) (by rw [hU];exact (A2.o.far (by show g≠q;omega) _).far (by show g≠q;omega) _);have bU:=h_ (Below W1 W1 U) (by rw [hU];exact (Aj.o.setCell (by exact hg) _).setCell (by exact hg) _);have Ar:q<U:=BU.o.1;go_upto_region 5 with fail;rw [←hU];clear hU y0 y1 fy r1;have x1:U.cell? (f_ w 1)=some (i_ (vn:Int)):=(F1.o.call bU.o).cell (i:=1) rfl (by rw [C0.o];rfl);go_upto_region 6 with (with_reducible refine wpList_make_val rfl (.tmp 18) (.tmp 18) rfl W1 Y 100 (3+(vn:Int)) (3+(vn:Int)) (3+vn) (by simp [Act.eval]) (by simp [Act.eval]) o_ o_ (fun k hk=>lt_ (F1.o.lt k hk) bU.o.size) o_ bU.o.size ?_;intro w4 o4 b4;have O4:=q_ o4;have B4:=q_ b4;clear o4 b4 x1);obtain ⟨V,hV,A9,Ai,BV⟩:=af_ w4 [i_ 2,.slice (some (a_ U)) (3+vn) (3+vn)] 90;rw [←hV];clear hV;have OV:=q_ (O4.o.below A9);have Ah:=B4.o.size;have A4:Below U U V:=B4.o.trans (A9.mono Ah);have Af:=q_ (OU.o.below A4);have Ab:=q_ (BU.o.below A4);have bV:=q_ (bU.o.trans (A4.mono bU.o.size));have Ac:=q_ BV;clear Ai;have Al:(U:Nat)<w4:=by
  obtain ⟨xs,ho,_⟩:=O4.o;exact (an_ ho rfl).2
 obtain ⟨⟨u0,y0⟩,fy⟩:=own_fresh OV.o 0 0 o_ rfl;obtain ⟨⟨u1,y1⟩,_⟩:=own_fresh OV.o 0 1 o_ rfl;simp only [Nat.zero_mul,Nat.zero_add] at y0 y1;have r1:=BV.2.1 1 _ rfl;have Ag:(0:Int)<((3+vn:Nat):Int):=by omega
 obtain ⟨T,hT⟩:=ex_ ((V.setCell (a_ U) (.bool true)).setCell (f_ U 1) (i_ 0));have OT:=q_ (show OwT T W1 38 valT Y 100 (some (a_ U)) (3+vn) (3+vn) from by
  rw [hT]
  exact (OV.o.set (k:=0) (j:=0) (t:=.tru) (u:=.bool true) o_ rfl (.tru _) _ rfl).set (k:=0) (j:=1) (t:=.num) (u:=i_ 0) o_ rfl (.num _) _ rfl)
 have hne:U≠q:=by omega
 have A1:(U:Nat)≠w4:=by omega
 have A7:=h_ (Bx T q [i_ 1,.slice (some (a_ g)) 3 3]) (by rw [hT];exact (Ab.o.far hne _).far hne _);have A6:=h_ (Bx T w4 [i_ 2,.slice (some (a_ U)) (3+vn) (3+vn)]) (by rw [hT];exact (Ac.o.far A1 _).far A1 _);have A0:(W1:Nat)<=U:=bU.o.size;have bT:=h_ (Below W1 W1 T) (by rw [hT];exact (bV.o.setCell (by exact A0) _).setCell (by exact A0) _);have Ae:=q_ (show OwT T W1 38 valT Y 100 (some (a_ g)) 3 3 from by
  have Ak:g≠U:=by omega
  have An:V.grownBy T (some U):=by
   rw [hT]
   have hk:Kp (fun k=>k=U) V ((V.setCell (a_ U) (.bool true)).setCell (f_ U 1) (i_ 0)):=((Kp.refl (fun k=>k=U) V).setCell (p:=(a_ U)) (.inl rfl) _).setCell (p:=(f_ U 1)) (.inl rfl) _
   exact ⟨hk.os,hk.tape,hk.output,hk.size,fun k Ao hne=>hk.block k Ao (fun e=>hne (by rw [e]))⟩
  obtain ⟨xs,ho,hx⟩:=Af.o
  refine ⟨xs,ho.kept An (.inr (fun e=>by injection e with e;exact Ak e)),fun k j t hk hj=>?_⟩
  obtain ⟨u,hu,hv⟩:=hx k j t hk hj
  refine ⟨u,hu,?_⟩
  have Am:j<2:=(e_ hj).1
  match j,Am,hj with
  | 0,_,hj=>injection hj with hj;subst hj;obtain ⟨x,rfl⟩:=hv.bool;exact .tru _
  | 1,_,hj=>injection hj with hj;subst hj;obtain ⟨x,rfl⟩:=hv.int;exact .num _)
 go_upto_region 7 with fail;rw [←hT];clear hT y0 y1 fy r1;have t0:=A7.o.2.1 0 _ rfl;have t1:=A7.o.2.1 1 _ rfl;have s0:=A6.o.2.1 0 _ rfl;have s1:=A6.o.2.1 1 _ rfl;have F7:=q_ (F1.o.call (bT.o.alloc bT.o.size (.cells #[i_ 1,.slice (some (a_ g)) 3 3,i_ 2,.slice (some (a_ U)) (3+vn) (3+vn)] 90)));have BR:=q_ (F7.o.box (i:=0) rfl);have LR:=q_ (F7.o.len (i:=0) rfl);have Ad:=h_ ((stNew T).length<=ef_.length) (Nat.le_refl 42);have US:=q_ (show VTs (T.alloc (.cells #[i_ 1,.slice (some (a_ g)) 3 3,i_ 2,.slice (some (a_ U)) (3+vn) (3+vn)] 90)) Y 100 ef_ (stNew T) from by
  have A5:∀ k,Y k->k<W1:=fun k hk=>F1.o.lt k hk
  have Aa:Kp Y T (T.alloc (.cells #[i_ 1,.slice (some (a_ g)) 3 3,i_ 2,.slice (some (a_ U)) (3+vn) (3+vn)] 90)):=(Kp.refl _ _).alloc _
  have s1:=(Ae.o.slT A5 o_).up Aa (l_)
  have s2:=(OT.o.slT A5 o_).up Aa (l_)
  have hb:=Bx.new T [i_ 1,.slice (some (a_ g)) 3 3,i_ 2,.slice (some (a_ U)) (3+vn) (3+vn)] 90
  exact vts_stNew (SlP.two (p:=fun _=>True) (us:=[i_ 1,.slice (some (a_ g)) 3 3]) (vs:=[i_ 2,.slice (some (a_ U)) (3+vn) (3+vn)]) hb (fun hy=>by have:=A5 _ hy;have:=bT.o.size;omega) o_ (VTs.cons (.num _) (VTs.cons s1.vt VTs.nil)) trivial (VTs.cons (.num _) (VTs.cons s2.vt VTs.nil)) trivial).sl)
 go_wp2_with (with_reducible refine ab_ rfl 140 (.tmp 2) (.tmp 29) rfl (stNew T) w_ (by simp [Act.eval,Act.put,stNew]) (BR.o.ah_ LR.o Ad.o) (isz_stNew _) US.o.one ?_);obtain ⟨⟨f2,_⟩,hr⟩:=ret_state F7.o (i:=0) rfl US.o 0;refine bh_ results71 (by rfl) underlying140 rfl (f2.info (i:=0) rfl isz_140) (f2.box (i:=0) rfl).whole rfl ?_;exact hr
def RCom (X:NP) (K:Nat) (e:Ending) (w:World):Prop:=∃ (us:VL) (ev:Int),e=.returned (.tuple #[.agg us.toArray,i_ ev])/\VTs w X K comT us
def bp_ (A:OA) (n c:Nat):VL:=[.slice A n c,i_ 0,i_ 0,.slice none 0 0,.bool false,.bool false,.bool false,i_ 0,i_ 0,i_ 0]
theorem cp_ (A:OA) (n c:Nat):(prog.info? 40).map (·.size)=some (bp_ A n c).length:=cn_
theorem ch_ {X:NP} {w:World} {K:Nat} {A:OA} {n c:Nat} (h:SlT w X K objT A n c):VTs w X K comT (bp_ A n c):=VTs.cons h.vt (az_ K (comT.drop 1))
theorem dq_ {X:NP} {w0 w:World} {L:List LV} {Y:NP} {C:Nat->VL} {i b N:Nat} {us:VL} (F:Fr X (fun _=>False) w0 L Y C w) (hp:L[i]?=some ⟨b,fun _=>N,comT,noOw⟩) (hv:VTs w Y N comT us) (ev:Int) :
  (∃ f2:Fr X (fun _=>False) w0 L Y (upd C b us) (w.setCells b 0 us),True)/\RCom X N (.returned (.tuple #[.agg (upd C b us b).toArray,i_ ev])) (w.setCells b 0 us)/\Below w0 w0 (w.setCells b 0 us):=by
 obtain ⟨f2,u2⟩:=F.sets (i:=i) hp hv;exact ⟨⟨f2,trivial⟩,⟨_,ev,rfl,(f2.whole hp).less (fun k _ hk=>f2.sub k hk)⟩,f2.below⟩
theorem Begin22_t (X:NP) (K:Nat) (A:OA) (n c:Nat) (v s:Int) (l:List In) (w:World) (hco:SlT w X K aw_ A n c) (hl:Sl w w 5 In.cells A n l) (hK:K<=900000000) (hX:∀ k,X k->k<w) :
  Calls prog 39 #[.agg #[.slice A n c,i_ v,i_ s]] w fun e w'=>RCom X 100 e w'/\Below w w w':=by
 obtain ⟨W,Y,C,hW,hz,U,F,c0,c1⟩:=Fr.start2 hX K [.sl aw_,.num,.num] [.slice A n c,i_ v,i_ s] 26 (VTs.cons hco.vt (VTs.cons (.num _) (VTs.cons (.num _) VTs.nil))) 100 comT (bp_ none 0 0) 40 (ch_ (cl_ _ _ _ _));have A4:=q_ (hco.go U (l_));have HL:=q_ (hl.go hco U);have HF:=q_ F;have x0:=F.cell (i:=1) rfl (j:=0) (by rw [c0];rfl);have x1:=F.cell (i:=1) rfl (j:=1) (by rw [c0];rfl);have x2:=F.cell (i:=1) rfl (j:=2) (by rw [c0];rfl);have A2:W=(w.alloc (.cells #[.slice A n c,i_ v,i_ s] 26)).alloc (.cells zl3.toArray 40):=hW;clear hco hl hX U F c0 c1 hW;go_enter func39,ntmps39;go_upto_region 1 with fail;rw [←A2];clear A2;go_wp2_with fail;refine (Start_t Y K A n c v s l W A4.o HL.o hK HF.o.lt).mono ?_;rintro e S ⟨⟨us,ev,rfl,A0⟩,hS⟩;have F1:=q_ (HF.o.call hS);have US:=q_ A0;have IS:=h_ ((prog.info? 140).map (·.size)=some us.length) (by rw [A0.1];exact isz_140);have BN:=q_ (Bx.new S zl2 140);have LR:=h_ ((zl2:VL).length=ef_.length) rfl;obtain ⟨N,Y3,D3,hN,A6,u3,f3,cN,A5⟩:=F1.o.ec_ 100 ef_ zl2 us 140 em_ US.o;have F4:=q_ f3;have U3:=q_ u3;have CN:=q_ cN;have A7:(w:Nat)+1<S:=F1.o.blt (i:=0) rfl;clear hS f3 u3 cN A5 A6 x0 x1 x2;go_upto_region 2 with (with_reducible refine ab_ rfl 140 (.tmp 4) (.tmp 9) rfl (us) w_ v_ (BN.o.ah_ LR.o (Nat.le_of_eq US.o.len)) IS.o US.o.one ?_);rw [←hN];clear hN;obtain ⟨sv,ur,rfl,A3,_⟩:=A0.head;obtain ⟨HA,hn,hc,rfl,hh⟩:=A3.slice;have HH:=q_ (hh.go U3.o (l_));have s0:=F4.o.cell (i:=0) rfl (j:=0) (v:=.slice HA hn hc) (by rw [CN.o];rfl);clear hh A3 A0;have BR:=q_ (F4.o.box (i:=1) rfl);have LR:=q_ (F4.o.len (i:=1) rfl);by_cases hev:ev=0
 case neg =>
  have HZ:=h_ (VTs N Y3 100 comT (bp_ none 0 0)) (ch_ (cl_ _ _ _ _));have A1:=h_ ((bp_ none 0 0).length<=comT.length) (Nat.le_refl 10);go_wp2_with (with_reducible refine ab_ rfl 40 (.tmp 2) (.tmp 13) rfl (bp_ none 0 0) w_ (by simp [Act.eval,Act.put,bp_]) (BR.o.ah_ LR.o A1.o) (cp_ _ _ _) HZ.o.one ?_);obtain ⟨⟨f9,_⟩,hr⟩:=dq_ F4.o (i:=1) rfl HZ.o ev;refine bh_ results39 (by rfl) underlying40 rfl (f9.info (i:=1) rfl cn_) (f9.box (i:=1) rfl).whole rfl ?_;exact hr
 subst hev;have HZ:=h_ (VTs N Y3 100 comT (bp_ HA hn hc)) (ch_ HH.o);have A1:=h_ ((bp_ HA hn hc).length<=comT.length) (Nat.le_refl 10);go_wp2_with (with_reducible refine ab_ rfl 40 (.tmp 2) (.tmp 17) rfl (bp_ HA hn hc) w_ (by simp [Act.eval,Act.put,bp_]) (BR.o.ah_ LR.o A1.o) (cp_ _ _ _) HZ.o.one ?_);obtain ⟨⟨f9,_⟩,hr⟩:=dq_ F4.o (i:=1) rfl HZ.o 0;refine bh_ results39 (by rfl) underlying40 rfl (f9.info (i:=1) rfl cn_) (f9.box (i:=1) rfl).whole rfl ?_;exact hr
section
variable {X Z Y:NP} {w0 w w':World} {L:List LV} {C:Nat->VL} {b i j N o:Nat} {K:Nat->Nat} {ts us:List CT} {ow:Nat->Option TypeId} {t:CT} {v:Value} {vs:VL}
theorem Fr.set1 (h:Fr X Z w0 L Y C w) (hp:L[i]?=some ⟨b,K,ts,ow⟩) (hj:ts[j]?=some t) (ho:ow j=none) (hv:VT w Y (K j) t v) :
  ∃ W C',W=w.setCell (f_ b j) v/\Fr X Z w0 L Y C' W/\Up w Y W Y/\(∀ k,k≠b->C' k=C k)/\C' b=(C b).set j v/\(W:Nat)=w:=by
 obtain ⟨f,u⟩:=h.set hp hj ho hv;exact ⟨_,_,rfl,f,u,fun k hk=>ad_ _ _ hk,upd_same _ _ _,by simp [World.setCell]⟩
theorem Fr.part1 (h:Fr X Z w0 L Y C w) (hp:L[i]?=some ⟨b,K,ts,ow⟩) (o:Nat) (hu:(ts.drop o).take us.length=us) (hou:o+us.length<=ts.length) (hv:VTs w Y N us vs) (hK:∀ j,o<=j->j<o+us.length->N<=K j/\ow j=none) :
  ∃ W C',W=w.setCells b o vs/\Fr X Z w0 L Y C' W/\Up w Y W Y/\(∀ k,k≠b->C' k=C k)/\C' b=splice (C b) o vs/\(W:Nat)=w:=by
 obtain ⟨f,u⟩:=h.part hp hu hou hv hK;exact ⟨_,_,rfl,f,u,fun k hk=>ad_ _ _ hk,upd_same _ _ _,setCells_size _ _ _ _⟩
theorem Fr.sets1 (h:Fr X Z w0 L Y C w) (hp:L[i]?=some ⟨b,fun _=>N,ts,noOw⟩) (hv:VTs w Y N ts vs) :
  ∃ W C',W=w.setCells b 0 vs/\Fr X Z w0 L Y C' W/\Up w Y W Y/\(∀ k,k≠b->C' k=C k)/\C' b=vs/\(W:Nat)=w:=by
 obtain ⟨f,u⟩:=h.sets hp hv;exact ⟨_,_,rfl,f,u,fun k hk=>ad_ _ _ hk,upd_same _ _ _,setCells_size _ _ _ _⟩
theorem Fr.more_own (h:Fr X Z w0 L Y C w) (hno:∀ p ∈ L,p.ow=noOw) (hb:Below w.heap.size w w') {A:OA} {n c:Nat} (hA:∀ g,(Value.slice A n c).ownBlock=some g->w.heap.size<=g/\g<w'.heap.size) :
  ∃ Y',Fr X Z w0 L Y' C w'/\Up w Y w' Y'/\(∀ g,(Value.slice A n c).ownBlock=some g->Y' g/\w0.heap.size<=g/\∀ p ∈ L,p.b≠g)/\(∀ k,Y k->Y' k):=by
 have A0:∀ k,k<w.heap.size->¬Y k->¬(Y k∨(Value.slice A n c).ownBlock=some k):=fun k hk h1 h2=>by
  rcases h2 with h2 | h2
  ·exact h1 h2
  have:=hA k h2;omega
 have A2:Up w Y w' (fun k=>Y k∨(Value.slice A n c).ownBlock=some k):=⟨.of_below hb,A0⟩;have hz:=h.kp.size;refine ⟨_,⟨h.kp.bc_ hb,fun k hk=>.inl (h.sub k hk),fun k hk=>?_,fun p hp=>?_,fun p hp j t hj ho=>?_,fun p hp j t et hj ho=>?_,fun p hp q hq i j u v g hne A1=>?_,h.nd⟩,A2,fun g hg=>⟨.inr hg,by have:=hA g hg;omega,fun p hp=>?_⟩,fun k hk=>.inl hk⟩
 ·rcases hk with hk | hk
  ·exact lt_ (h.lt k hk) hb.size
  exact (hA k hk).2
 ·obtain ⟨h1,h2,h3,h4⟩:=h.blk p hp;exact ⟨.inl h1,h2,h3.below hb,h4⟩
 ·obtain ⟨v,h1,h2⟩:=h.val p hp j t hj ho;exact ⟨v,h1,h2.go A2 (l_)⟩
 ·rw [hno p hp] at ho;cases ho
 ·rw [hno p hp] at A1;exact absurd rfl A1
 have h1:=(h.blk p hp).2.2.1.1;have:=hA g hg;omega
theorem Fr.grow_own (h:Fr X Z w0 L Y C w) (hno:∀ p ∈ L,p.ow=noOw) {A A':OA} {n c n' c':Nat} (hg:w.grownBy w' (Value.slice A n c).ownBlock) (hA:∀ g,(Value.slice A n c).ownBlock=some g->Y g/\w0.heap.size<=g/\∀ p ∈ L,p.b≠g)
  (hloc:∀ g,(Value.slice A' n' c').ownBlock=some g->(Value.slice A n c).ownBlock=some g∨g=w.heap.size) (hlt:∀ g,(Value.slice A' n' c').ownBlock=some g->g<w'.heap.size) :
  ∃ Y',Fr X Z w0 L Y' C w'/\Up w Y w' Y'/\(∀ g,(Value.slice A' n' c').ownBlock=some g->Y' g/\w0.heap.size<=g/\∀ p ∈ L,p.b≠g)/\(∀ k,Y k->Y' k):=by
 have A4:Kp Y w w':=(Kp.refl _ w).grown hg (fun g hg=>.inl (hA g hg).1);have A1:∀ k,k<w.heap.size->¬Y k->¬(Y k∨(Value.slice A' n' c').ownBlock=some k):=fun k hk h1 h2=>by
  rcases h2 with h2 | h2
  ·exact h1 h2
  rcases hloc k h2 with h3 | h3
  ·exact h1 (hA k h3).1
  omega
 have A3:Up w Y w' (fun k=>Y k∨(Value.slice A' n' c').ownBlock=some k):=⟨A4,A1⟩;have hz:=h.kp.size;refine ⟨_,⟨?_,fun k hk=>.inl (h.sub k hk),fun k hk=>?_,fun p hp=>?_,fun p hp j t hj ho=>?_,fun p hp j t et hj ho=>?_,fun p hp q hq i j u v g hne A2=>?_,h.nd⟩,A3,fun g A0=>⟨.inr A0,?_⟩,fun k hk=>.inl hk⟩
 ·exact h.kp.grown hg (fun g A0=>.inr (hA g A0).2.1)
 ·rcases hk with hk | hk
  ·exact lt_ (h.lt k hk) hg.size
  exact hlt k hk
 ·obtain ⟨h1,h2,h3,h4⟩:=h.blk p hp;exact ⟨.inl h1,h2,h3.kp (X:=fun k=>(Value.slice A n c).ownBlock=some k) ((Kp.refl _ w).grown hg (fun g A0=>.inl A0)) (fun he=>(hA _ he).2.2 p hp rfl),h4⟩
 ·obtain ⟨v,h1,h2⟩:=h.val p hp j t hj ho;exact ⟨v,h1,h2.go A3 (l_)⟩
 ·rw [hno p hp] at ho;cases ho
 ·rw [hno p hp] at A2;exact absurd rfl A2
 rcases hloc g A0 with h3 | h3
 ·exact (hA g h3).2
 refine ⟨o_,fun p hp=>?_⟩;have h1:=(h.blk p hp).2.2.1.1;omega
end
def comS:List CT:=comT.set 3 (.sat fun _=>True)
theorem comS_at {j:Nat} (h:j≠3):comS[j]?=comT[j]?:=by unfold comS;rw [gs_,if_neg (fun e=>h e.symm)]
theorem com_weak {X Z Y:NP} {w0 w:World} {L:List LV} {C:Nat->VL} {b N:Nat} {p q:LV} (h:Fr X Z w0 (p :: q :: ⟨b,fun _=>N,comT,noOw⟩ :: L) Y C w):Fr X Z w0 (p :: q :: ⟨b,fun _=>N,comS,noOw⟩ :: L) Y C w:=by
 have same:∀ (p' q':LV),p'=q'->q'.b=p'.b/\q'.ow=p'.ow/\(∀ j,p'.K j<=q'.K j)/\q'.ts.length=p'.ts.length/\∀ j t t',p'.ts[j]?=some t->q'.ts[j]?=some t' →
   (p'.ow j=none->∀ v,VT w Y (q'.K j) t v->VT w Y (q'.K j) t' v)/\(p'.ow j≠none->∀ e:List CT,t=.sl e->∃ e':List CT,t'=.sl e'/\e'.length=e.length/\∀ (i:Nat) (s s':CT),e[i]?=some s->e'[i]?=some s'->∀ (X':NP) (K':Nat) (v:Value),VT w X' K' s v->VT w X' K' s' v):=by
  rintro p' _ rfl;refine ⟨rfl,rfl,fun _=>l_,rfl,fun j t t' hj A0=>?_⟩;rw [hj] at A0;injection A0 with A0;subst A0;exact ⟨fun _ v hv=>hv,fun _ e he=>⟨e,he,rfl,fun i s s' hs A1 X' K' v hv=>by rw [hs] at A1;injection A1 with A1;subst A1;exact hv⟩⟩
 refine h.weak rfl (fun i p' q' hp hq=>?_)
 match i,hp,hq with
 | 0,hp,hq=>exact same _ _ (by injection hp with hp;injection hq with hq;rw [←hp,←hq])
 | 1,hp,hq=>exact same _ _ (by injection hp with hp;injection hq with hq;rw [←hp,←hq])
 | 2,hp,hq =>
  injection hp with hp;injection hq with hq;subst hp hq;refine ⟨rfl,rfl,fun _=>l_,rfl,fun j t t' hj A0=>⟨fun _ v hv=>?_,fun h=>absurd rfl h⟩⟩;by_cases h3:j=3
  ·subst h3;have A0:comS[3]?=some t':=A0;injection A0 with A0;subst A0;exact .sat _ _ hv.one trivial
  have A0:comS[j]?=some t':=A0;rw [comS_at h3,show comT[j]?=some t from hj] at A0;injection A0 with A0;subst A0;exact hv
 | i+3,hp,hq =>
  refine same _ _ ?_;have hp:L[i]?=some p':=by simpa using hp
  have hq:L[i]?=some q':=by simpa using hq
  rw [hp] at hq;injection hq
def Fy (X:NP) (w:World) (L:List LV) (b:Nat) (Y:NP) (Cx:Nat->VL) (base:Nat) (et:TypeId) (Y2:NP) (M:Nat) (A:OA) (n c:Nat) (wx:World):Prop:=∃ C',Fr X (fun _=>False) w L Y C' wx/\(C' b)[3]?=some (.slice A n c)/\OwT wx base et actT Y2 M A n c/\∀ k,k≠b->C' k=Cx k
section
variable {X Y Y2:NP} {w wx w2:World} {L:List LV} {Cx:Nat->VL} {b i j base M N n c:Nat} {et:TypeId} {K:Nat->Nat} {ts:List CT} {ow:Nat->Option TypeId} {t:CT} {v:Value} {A:OA}
theorem Fy.set (h:Fy X w L b Y Cx base et Y2 M A n c wx) (hb:Y2 b/\b<base) (hp:L[i]?=some ⟨b,K,ts,ow⟩) (hj:ts[j]?=some t) (ho:ow j=none) (h3:j≠3) (hv:VT wx Y (K j) t v):Fy X w L b Y Cx base et Y2 M A n c (wx.setCell (f_ b j) v):=by
 obtain ⟨C',f,hC,hO,hk⟩:=h;obtain ⟨f2,_⟩:=f.set hp hj ho hv;exact ⟨_,f2,by rw [upd_same,gs_,if_neg h3];exact hC,hO.kept (dl_ wx (f_ b j) v) (fun k hk=>by injection hk with hk;subst hk;exact hb),fun k h=>by rw [ad_ _ _ h];exact hk k h⟩
theorem Fy.drew (h:Fy X w L b Y Cx base et Y2 M A n c wx):Fy X w L b Y Cx base et Y2 M A n c wx.drew:=by
 obtain ⟨C',f,hC,hO,hk⟩:=h;exact ⟨_,f.drew,hC,hO.below (Below.drew (b_)),hk⟩
theorem Fy.end_ {r k:Nat} {C:Nat->VL} (F:Fr X (fun _=>False) w L Y C wx) (hr:L[i]?=some ⟨r,fun _=>N,comT,noOw⟩) (hs:L[k]?=some ⟨b,fun _=>N,comS,noOw⟩) (h3:(C b)[3]?=some (.slice A n c)) (hO:OwT wx base et actT Y2 M A n c) (hn:n<=M) (hM:M<=N) (hbase:w<=base) (hX:∀ k,X k->k<w/\Y2 k) (hr2:Y2 r/\r<base) (ev:Int) :
  Bx (wx.setCells r 0 (C b)) r (C b)/\(C b).length=comT.length/\(∀ u ∈ C b,u.oneCell'=true)/\RCom X N (.returned (.tuple #[.agg (C b).toArray,i_ ev])) (wx.setCells r 0 (C b))/\Below w w (wx.setCells r 0 (C b)):=by
 have hl:(C b).length=comT.length:=(F.len hs).trans (by rfl);obtain ⟨A0,A3,A1,A2⟩:=F.blk _ (Fr.mem hr);have hv:VTs wx (fun k=>X k∨k=r) N comT (C b):=⟨hl,fun j t hj=>by
  by_cases e:j=3
  ·subst e
   have hj:comT[3]?=some t:=hj
   injection hj with hj
   subst hj
   refine ⟨_,h3,((hO.sub (Y':=fun k=>X k∨k=r) (fun q _ hq=>?_) hM).slT (fun q hq=>?_) (Nat.le_trans hn hM)).vt⟩
   ·rcases hq with hq | hq
    ·exact .inl (hX q hq).2
    subst hq;exact .inl hr2.1
   rcases hq with hq | hq
   ·exact lt_ (hX q hq).1 hbase
   subst hq;exact hr2.2
  obtain ⟨v,h1,h2⟩:=F.val _ (Fr.mem hs) j t (by show comS[j]?=some t;rw [comS_at e];exact hj) rfl
  exact ⟨v,h1,h2.less (fun q _ hq=>by rcases hq with hq | hq;exact F.sub q hq;subst hq;exact A0)⟩⟩
 have hk:Kp (fun k=>X k∨k=r) wx (wx.setCells r 0 (C b)):=ai_ r _ 0 (Kp.refl _ wx) (.inl (.inr rfl));refine ⟨A1.all _ (by rw [hl];exact A2.symm),hl,hv.one,⟨_,ev,rfl,(hv.up hk (l_)).less (fun q _ hq=>.inl hq)⟩,(ai_ r _ 0 F.kp ?_).below (l_) (fun _ _ h=>h)⟩;rcases A3 with h | h
 ·exact .inr h
 exact h.elim
end
def ROw (base:Nat) (et:TypeId) (X:NP) (K m:Nat) (en:Ending) (w:World):Prop:=∃ (A:OA) (c:Nat),en=.returned (.slice A m c)/\Hid (OwT w base et actT X K A m c)
theorem actions_o (X:NP) (K L:Nat) (A:OA) (n c:Nat) (B:OA) (m d:Nat) (w:World) (ha:SlT w X K actT A n c) (hb:SlT w X L actT B m d) (hK:K<=100000000000) (hL:L<=100000000000) (hX:∀ k,X k->k<w) :
  Calls prog 75 #[.slice A n c,.slice B m d] w fun e w'=>ROw w 152 X (K+L) (n+m) e w'/\Below w w w':=by
 obtain ⟨i0,A1,A2,A3,A6⟩:=info_parts infoAc;have HA:=h_ (SlT w (Wi X (Value.slice none 0 0).ownBlock) (K+L) actT A n c) (ha.kept (Kp.refl _ _) (fun k _ h h2=>by rcases h2 with h2 | h2;exact h h2;cases h2) o_);have HB:=q_ hb;have A0:=q_ hX;have h1:=ha.le;have h2:=hb.le;clear ha hb hX;go_enter func75,ntmps75;go_wp2_with (at_builtin;first
  | (refine aq_ rfl _ _ 36 rfl w 152 i0 _ 24 actT X (K+L) underlying36 A1 A2 A3 A6 rfl d_ none 0 0 (by simp [Act.eval]) (OwT.nil _ _ _ _ _ _) A n c (by simp [Act.eval]) HA.o A0.o m_ o_ (l_) ?_;intro A4 c4 w4 o4 g4 l4;rw [Nat.zero_add] at o4 l4 ⊢;have b4:Below w w w4:=am_ g4 (l_) (fun k hk=>by cases hk);have z4:=b4.size;have O4:=q_ o4;have L4:=q_ l4;clear o4 l4 g4)
  | (refine aq_ rfl _ _ 36 rfl w 152 i0 _ 24 actT X (K+L) underlying36 A1 A2 A3 A6 rfl d_ A4 n c4 (by simp [Act.eval]) O4.o B m d (by simp [Act.eval]) (HB.o.kept (Kp.of_below b4) (fun k hk h h2=>by rcases h2 with h2 | h2;exact h h2;rcases L4.o k h2 with h3 | h3;cases h3;omega) o_) (fun k hk=>by have:=A0.o k hk;omega) m_ o_ z4 ?_;intro A5 c5 w5 o5 g5 l5;have b5:Below w w w5:=b4.grown g5 z4 (fun k hk=>by rcases L4.o k hk with h3 | h3;cases h3;omega);have O5:=q_ o5;clear o5 l5 g5))
 go_ret;exact ⟨⟨_,_,rfl,O5⟩,b5⟩
theorem infoInt:(prog.info? 3).map (fun i=>(i.zero,i.size,i.bytes))=some (some (i_ 0),1,8):=by kernel_rfl
def RDiv (X:NP) (K:Nat) (e:Ending) (w:World):Prop:=∃ (A:OA) (n c:Nat),e=.returned (.agg #[.slice A n c])/\Hid (SlT w X K [.num] A n c)
theorem Every_t (X:NP) (K:Nat) (A:OA) (n c:Nat) (v s:Int) (l:List In) (w:World) (hs:Sl w w 5 In.cells A n l) (hn:n<=9000000000000) (hK:2049<=K) (hX:∀ k,X k->k<w) :
  Calls prog 70 #[.agg #[.slice A n c,i_ v,i_ s]] w fun e w'=>RDiv X K e w'/\Below w w w':=by
 obtain ⟨i0,Am,An,Ao,Ap⟩:=info_parts infoInt;obtain ⟨W,hW,A4,Al,B0,B1,B2⟩:=el_ w [.slice A n c,i_ v,i_ s] 26 [.slice none 0 0] 32 [.slice none 0 0] 32;have HS:=q_ (hs.up A4);have HW:=q_ A4;have Ad:=q_ B0;have Ae:=q_ B1;have Af:=q_ B2;have A3:=h_ (∀ k,(X k∨(w<=k/\k<w+3))->k<W) (fun k hk=>by rcases hk with hk | hk;have:=hX k hk;omega;omega);have c0:=B0.2.1 0 _ rfl;have c1:=B0.2.1 1 _ rfl;have c2:=B0.2.1 2 _ rfl;have Ac:(w:Nat)+3=W:=by omega
 have A0:=q_ Ac;have Ak:=q_ hX;clear hs hX B0 B1 B2 A4 Al Ac;go_enter func70,ntmps70;go_upto_region 2 with fail;rw [←hW];clear hW;go_wp2_with fail;refine (Valid_any A n c v s l W HS.o hn).mono ?_;rintro e Z ⟨⟨b,rfl,hb⟩,hZ⟩;have hsz:=hZ.size;have Aj:=q_ (Ad.o.below hZ);have A1:=q_ (Ae.o.below hZ);have A9:=q_ (Af.o.below hZ);have Aa:=q_ hZ;clear hZ c0 c1 c2;cases b
 ·have d0:=A9.o.2.1 0 _ rfl;have d1:=A1.o.2.1 0 _ rfl;have d2:=A1.o.2.2;go_wp2;refine retC results70 (by rfl) underlying32 rfl k_ (cs:=[_]) (A1.o.set 0 _).whole rfl ?_;have A7:Below w w (Z.setCell (a_ (w+1)) (.slice none 0 0)):=(HW.o.trans (Aa.o.mono (by have:=A0.o;omega))).setCell (by show (w:Nat)<=w+1;omega) _;exact ⟨⟨none,0,0,rfl,q_ ((OwT.nil _ w 3 [.num] X K).slT Ak.o o_)⟩,A7⟩
 have Aq:=(hb rfl).2;clear hb;have Ah:=h_ (Kp (fun k=>k=w+2) W Z) (.of_below Aa.o);go_upto_region 4 with fail;go_loopw [4] (fun i wr=>∃ (k:Nat) (B:OA) (d:Nat),k<=(s+1).toNat/\i=i_ k/\Hid (OwT wr W 3 [.num] (fun k=>X k∨(w<=k/\k<w+3)) K B k d)/\Hid (Bx wr w [.slice A n c,i_ v,i_ s])/\Hid (Bx wr (w+1) [.slice none 0 0])/\Hid (Bx wr (w+2) [.slice B k d])/\Hid (Kp (fun k=>k=w+2) W wr)) (fun i _=>(s+1).toNat - (intOf i).toNat)
 case atStart=>exact ⟨0,none,0,o_,rfl,q_ (OwT.nil _ _ _ _ _ _),Aj,A1,A9,Ah⟩
 obtain ⟨k,B,d,hk,rfl,hO,Ab,A2,A6,A8⟩:=hrel;have Ar:=A8.o.size;have c2:=Ab.o.2.1 2 _ rfl;have d0:=A6.o.2.1 0 _ rfl;by_cases hlt:(k:Int)<=s
 ·have d2:=A6.o.2.2;have HU:=h_ (∀ a:Int,SlT (wr.alloc (.cells #[i_ a] 3)) (Wi (fun k=>X k∨(w<=k/\k<w+3)) (Value.slice B k d).ownBlock) K [.num] (some (a_ wr)) 1 1) (fun a=>by
   refine SlT.lit1 (e:=[.num]) (VTs.cons (.num a) VTs.nil) _ (fun h=>?_) o_
   rcases h with h | h
   ·have:=A3.o _ h;omega
   obtain ⟨xs,ho,_⟩:=hO.o
   have:=(an_ ho h).2;omega)
  have Ai:=h_ (∀ o,OwT (wr.alloc o) W 3 [.num] (fun k=>X k∨(w<=k/\k<w+3)) K B k d) (fun o=>hO.o.below ((b_).alloc (l_) o));go_wp2_with (at_builtin;refine aq_ rfl _ _ 30 rfl W 3 i0 _ 8 [.num] (fun k=>X k∨(w<=k/\k<w+3)) K underlying30 Am An Ao Ap rfl d_ B k d (by simp [Act.eval]) (Ai.o _) _ 1 1 (by simp [Act.eval]) (HU.o _) (fun k hk=>by have:=A3.o k hk;simp;omega) m_ o_ (by simp;omega) ?_;intro A5 c5 w5 o5 g5 l5;have kq:Kp (fun g=>W<=g) wr w5:=((Kp.refl _ wr).alloc _).grown g5 (fun g hg=>.inl (by obtain ⟨xs,ho,_⟩:=hO.o;exact (an_ ho hg).1));have x0:=q_ (Ab.o.kp kq (by have:=A0.o;show ¬(W:Nat)<=_;omega));have x1:=q_ (A2.o.kp kq (by have:=A0.o;show ¬(W:Nat)<=_;omega));have x2:=q_ (A6.o.kp kq (by have:=A0.o;show ¬(W:Nat)<=_;omega));have Ag:=h_ (Kp (fun k=>k=w+2) W w5) ((A8.o.alloc _).grown g5 (fun g hg=>.inr (by obtain ⟨xs,ho,_⟩:=hO.o;exact (an_ ho hg).1)));have O5:=q_ o5;have y0:=x2.o.2.1 0 _ rfl;have y1:=x2.o.2.2;clear o5 g5 l5 kq c2 d0 d2);go_roundw
  case rel=>exact ⟨k+1,A5,c5,o_,by go_num,q_ (O5.o.kept (dl_ _ _ _) (fun g hg=>by injection hg with hg;subst hg;exact ⟨.inr ⟨by show (w:Nat)<=w+1+1;omega,by show (w:Nat)+1+1<w+3;omega⟩,by have:=A0.o;show (w:Nat)+1+1<_;omega⟩)),q_ (x0.o.far (by show (w:Nat)+2≠w;omega) _),q_ (x1.o.far (by show (w:Nat)+2≠w+1;omega) _),q_ (x2.o.set 0 _),q_ (Ag.o.setCell (p:=(a_ (w+2))) (.inl rfl) _)⟩
  case measure=>simp [intOf];omega
 have d1:=A2.o.2.1 0 _ rfl;have d2:=A2.o.2.2;go_wp2;refine retC results70 (by rfl) underlying32 rfl k_ (cs:=[_]) (A2.o.set 0 _).whole rfl ?_;have A7:Below w w (wr.setCell (a_ (w+1)) (.slice B k d)):=(HW.o.trans (A8.o.below (B:=w) (by have:=A0.o;omega) (fun k hk h=>o_))).setCell (by show (w:Nat)<=w+1;omega) _;exact ⟨⟨B,k,d,rfl,q_ (((hO.o.slT A3.o o_).up ((Kp.refl _ wr).setCell (p:=(a_ (w+1))) (.inl (.inr ⟨by show (w:Nat)<=w+1;omega,by show (w:Nat)+1<w+3;omega⟩)) _) (Nat.le_refl K)).kept (Kp.refl _ _) (fun k _ h h2=>h (.inl h2)) (Nat.le_refl K))⟩,A7⟩
end Go.Proofs.YtfolidlmgfhkiaaGreat
