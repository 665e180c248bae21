/- Lemmas: each says what a function of the program leaves, under the conditions that it states. -/
import Derived.Test.YtfolidlmgfhkiaaGreatZ33
set_option linter.unusedVariables false
set_option linter.unusedSimpArgs false
set_option maxRecDepth 100000
set_option maxHeartbeats 8000000
namespace Go.Proofs.YtfolidlmgfhkiaaGreat
open Go.RowKit Go.Proofs.Tryz
theorem infoOb:(prog.info? 90).map (fun i=>(i.zero,i.size,i.bytes))=some (some (.agg #[i_ 0,.slice none 0 0]),2,32):=by kernel_rfl
theorem Over_t (X:NP) (K:Nat) (A:OA) (n c:Nat) (L:Nat) (vs:VL) (w:World) (h:SlT w X K objT A n c) (hK:K<=1000000000000) (ht:VTs w X L ae_ vs) (hL:L<=1000000000000) (hX:∀ k,X k->k<w) :
  Calls prog 83 #[.agg #[.slice A n c],.agg vs.toArray] w fun e w'=>RH X (K+2*L) e w'/\Below w w w':=by
 obtain ⟨i0,AV,AY,AZ,B3⟩:=info_parts infoOb;obtain ⟨NA,nn,nc,Ab,A2⟩:=ht.slc (j:=39) (e:=objT) rfl;obtain ⟨WA,wn,wc,Aa,Ae⟩:=ht.slc (j:=38) (e:=as_) rfl;obtain ⟨DA,dn,dc,Ac,A9⟩:=ht.slc (j:=40) (e:=bl_) rfl;obtain ⟨W,hW,A3,AU,B0,B1,B2⟩:=el_ w [.slice A n c] 35 vs 65 [.slice none 0 0] 35;have A6:∀ k,k<w.heap.size->¬X k->¬(X k∨(w.heap.size<=k/\k<w.heap.size+3)):=fun k hk h1 h2=>by rcases h2 with h2 | h2;exact h1 h2;omega
 have H:=q_ (h.kept (Y:=fun k=>X k∨(w<=k/\k<w+3)) (Kp.of_below A3) A6 (Nat.le_refl K));have HN:=q_ (A2.kept (Y:=fun k=>X k∨(w<=k/\k<w+3)) (Kp.of_below A3) A6 (Nat.le_refl L));have AN:=q_ (Ae.kept (Y:=fun k=>X k∨(w<=k/\k<w+3)) (Kp.of_below A3) A6 (Nat.le_refl L));have Az:=q_ (A9.kept (Y:=fun k=>X k∨(w<=k/\k<w+3)) (Kp.of_below A3) A6 (Nat.le_refl L));have HW:=q_ A3;have Au:=q_ B0;have Av:=q_ B1;have Aw:=q_ B2;have AW:=h.le;have AX:=A2.le;have A5:=h_ (∀ k,(X k∨(w<=k/\k<w+3))->k<W) (fun k hk=>by rcases hk with hk | hk;have:=hX k hk;omega;omega);have c0:=B0.2.1 0 _ rfl;have f0:=B0.2.2;have As:(w:Nat)+3=W:=by omega
 have AP:=q_ As;have HF:=q_ (And.intro Ab (And.intro Aa Ac));clear h ht hX B0 B1 B2 A3 AU A2 Ae A9 A6 As Ab Aa Ac;go_enter func83,ntmps83;go_upto_region 1 with fail;rw [←hW];clear hW;have HA:=h_ (SlT W (Wi (fun k=>X k∨(w<=k/\k<w+3)) (Value.slice none 0 0).ownBlock) K objT A n c) (H.o.kept (Kp.refl _ _) (fun k _ h h2=>by rcases h2 with h2 | h2;exact h h2;cases h2) (Nat.le_refl K));go_upto_region 2 with (at_builtin;refine aq_ rfl _ _ 33 rfl W 90 i0 _ 32 objT (fun k=>X k∨(w<=k/\k<w+3)) K underlying33 AV AY AZ B3 rfl d_ none 0 0 (by simp [Act.eval]) (OwT.nil _ _ _ _ _ _) A n c (by simp [Act.eval]) HA.o A5.o m_ o_ (l_) ?_;intro A4 c4 w4 o4 g4 l4;rw [Nat.zero_add] at o4 l4 ⊢;have b4:Below W W w4:=am_ g4 (l_) (fun k hk=>by cases hk);have O4:=q_ (o4.slT A5.o AW);have BX:=q_ (Au.o.below b4);have m0:=BX.o.2.1 0 _ rfl;have m1:=BX.o.2.2;have B4:=q_ b4;clear o4 l4 g4 c0 f0 b4);obtain ⟨U,hU⟩:=ex_ (w4.setCell (a_ w) (.slice A4 n c4));have zW:=AP.o;have AA:=h_ (Kp (fun k=>k=w) W U) (by rw [hU];exact (show Kp (fun k=>k=w) W w4 from Kp.of_below B4.o).setCell (p:=(a_ w)) (.inl rfl) _);have AH:=h_ (SlT U (fun k=>X k∨(w<=k/\k<w+3)) (K+L) objT A4 n c4) (by rw [hU];exact O4.o.up ((Kp.refl _ w4).setCell (.inl (.inr ⟨l_,by show (w:Nat)<_;omega⟩)) _) o_);have AJ:=h_ (Bx U w [.slice A4 n c4]) (by rw [hU];exact BX.o.set 0 _);have An:=h_ (Bx U (w+1) vs) (by rw [hU];exact (Av.o.below B4.o).far (by show (w:Nat)≠w+1;omega) _);have AI:=h_ (Bx U (w+2) [.slice none 0 0]) (by rw [hU];exact (Aw.o.below B4.o).far (by show (w:Nat)≠w+2;omega) _);rw [←hU];have B5:=An.o.2.1 39 _ HF.o.1;clear hU m0 m1;go_upto_region 3 with fail;clear B5;go_loopw [14] (fun i wr=>∃ (k:Nat) (C:OA) (q d:Nat),k<=nn/\i=i_ k/\Hid (SlT wr (fun k=>X k∨(w<=k/\k<w+3)) (K+L+k) objT C q d)/\Hid (Bx wr w [.slice C q d])/\Hid (Bx wr (w+1) vs)/\Hid (Bx wr (w+2) [.slice none 0 0])/\Hid (Kp (fun k=>k=w) W wr)) (fun i _=>nn - (intOf i).toNat)
 case atStart=>exact ⟨0,A4,n,c4,o_,rfl,AH,AJ,An,AI,AA⟩
 obtain ⟨k,C,q,d,hk,rfl,hC,Ah,A8,Ag,Ai⟩:=hrel;have B7:=Ai.o.size;have Ad:Kp (fun k=>X k∨(w<=k/\k<w+3)) W wr:=Ai.o.mono (fun k _ h=>.inr ⟨o_,o_⟩);by_cases hlt:k<nn
 ·have Am:(k:Int)<(nn:Int):=by omega
  obtain ⟨g,o,rfl,hg,x,Aq,Ar,hx⟩:=(HN.o.up Ad (Nat.le_refl L)).obj_at hlt;obtain ⟨c4,c5⟩:=hx wr (b_);obtain ⟨V,hV,A0,AT,V0⟩:=af_ wr [i_ x.id,.slice x.A x.n x.c] 90;have v0:=V0.2.1 0 _ rfl;have v1:=V0.2.1 1 _ rfl;have c8:=(Ah.o.below A0).2.1 0 _ rfl;have AM:=q_ (Ah.o.below A0);have AL:=q_ (A8.o.below A0);have AK:=q_ (Ag.o.below A0);have Ax:=q_ (hC.o.up (Kp.of_below A0) (l_));have AB:=q_ (Ai.o.trans (.of_below A0));have AD:=q_ (Aq.up (Kp.of_below A0) (show L<=K+L+k by omega));have AE:=q_ (Ar.up A0);have B6:=A0.size;clear hx Aq Ar Ad A0 AT V0;go_upto_region 5 with fail;rw [←hV];clear hV c4 c5;go_wp2_with fail;refine (Put_t (fun k=>X k∨(w<=k/\k<w+3)) (K+L+k) C q d x V Ax.o AD.o AE.o o_ (fun k hk=>by have:=A5.o k hk;omega)).mono ?_;rintro e Z ⟨⟨C2,q2,d3,rfl,Ak⟩,hZ⟩;have Aj:=q_ (AM.o.below hZ);have AR:=q_ (AL.o.below hZ);have AQ:=q_ (AK.o.below hZ);have AC:=q_ (AB.o.trans (.of_below hZ));have y0:=Aj.o.2.1 0 _ rfl;have y1:=Aj.o.2.2;clear hZ c8 v0 v1;go_wp2;go_roundw
  case rel=>exact ⟨k+1,C2,q2,d3,o_,by go_num,q_ (Ak.o.up ((Kp.refl _ Z).setCell (.inl (.inr ⟨l_,by show (w:Nat)<_;omega⟩)) _) o_),q_ (Aj.o.set 0 _),q_ (AR.o.far (by show (w:Nat)≠w+1;omega) _),q_ (AQ.o.far (by show (w:Nat)≠w+2;omega) _),q_ (AC.o.setCell (.inl rfl) _)⟩
  case measure=>simp [intOf];omega
 have Am:¬(k:Int)<(nn:Int):=by omega
 have Ap:=AN.o.up Ad (Nat.le_refl L);have Ao:=Az.o.up Ad (Nat.le_refl L);have AO:=q_ Ap;have Ay:=q_ Ao;have KS:=h_ (∀ w',Below wr wr w'->(w'.cell? (a_ w)=some (.slice C q d)/\w'.cell? (f_ (w+1) 38)=some (.slice WA wn wc)/\w'.cell? (f_ (w+1) 40)=some (.slice DA dn dc))) (fun w' hb=>⟨(Ah.o.below hb).2.1 0 _ rfl,(A8.o.below hb).2.1 38 _ HF.o.2.1,(A8.o.below hb).2.1 40 _ HF.o.2.2⟩);have Al:Below wr wr wr.drew:=Below.drew (b_);have Af:=q_ Al;obtain ⟨s0,s1,s2⟩:=KS.o wr.drew Al;clear Al Ad Ap Ao;go_wp2_with fail;go_region_held3 (fun w':World=>w'.cell? (a_ w)=some (.slice C q d)/\w'.cell? (f_ (w+1) 38)=some (.slice WA wn wc)/\w'.cell? (f_ (w+1) 40)=some (.slice DA dn dc))
  (first | (refine KS.o _ ?_;(first | (with_reducible exact Af.o) | (with_reducible exact A1) | (with_reducible exact A7));done) | exact KR.o)
  (first
   | (go_at_call 135;refine (Written_t (fun k=>X k∨(w<=k/\k<w+3)) (K+L+k) C q d L WA wn wc wr.drew (hC.o.up (Kp.of_below Af.o) (l_)) o_ (AO.o.up (Kp.of_below Af.o) (l_)) o_ (fun k hk=>by have:=A5.o k hk;have:(wr.drew:Nat)=wr:=rfl;omega)).mono ?_;rintro e S ⟨⟨C2,q2,d3,rfl,Ak⟩,hS⟩;have A7:Below wr wr S:=Af.o.trans hS;clear hS)
   | (go_at_call 134;refine (Reduced_t (fun k=>X k∨(w<=k/\k<w+3)) (K+L+k) C2 q2 d3 L DA dn dc S Ak.o o_ (Ay.o.up (Kp.of_below A7) (l_)) o_ (fun k hk=>by have:=A5.o k hk;have:=A7.size;omega)).mono ?_;rintro e R ⟨⟨C3,q3,d4,rfl,AS⟩,hR⟩;have A1:Below wr wr R:=A7.trans (hR.mono A7.size);clear hR;have KR:=h_ (((R.setCell ⟨w+1+1,0,none⟩ (.slice C3 q3 d4)).cell? (a_ w)=some (.slice C q d)/\(R.setCell ⟨w+1+1,0,none⟩ (.slice C3 q3 d4)).cell? (f_ (w+1) 38)=some (.slice WA wn wc)/\(R.setCell ⟨w+1+1,0,none⟩ (.slice C3 q3 d4)).cell? (f_ (w+1) 40)=some (.slice DA dn dc))) (⟨((Ah.o.below A1).far (by show (w:Nat)+2≠w;omega) _).2.1 0 _ rfl,((A8.o.below A1).far (by show (w:Nat)+2≠w+1;omega) _).2.1 38 _ HF.o.2.1,((A8.o.below A1).far (by show (w:Nat)+2≠w+1;omega) _).2.1 40 _ HF.o.2.2⟩);have AF:=q_ (Ag.o.below A1);have AG:=q_ A1;have r0:=(Ag.o.below A1).2.1 0 _ rfl;have r1:=(Ag.o.below A1).2.2))
 go_wp2;refine retC results83 (by rfl) underlying35 rfl k_ (cs:=[_]) (AF.o.set 0 _).whole rfl ?_;have hb:Below w w (R.setCell ⟨w+1+1,0,none⟩ (.slice C3 q3 d4)):=((HW.o.trans (Ai.o.below (B:=w) o_ (fun k hk h=>o_))).trans (AG.o.mono o_)).setCell (by show (w:Nat)<=w+1+1;omega) _;exact ⟨⟨_,_,_,rfl,q_ ((AS.o.up ((Kp.refl _ R).setCell (.inl (.inr ⟨by show (w:Nat)<=w+1+1;omega,by show (w:Nat)+1+1<w+3;omega⟩)) _) (show K+L+k<=K+2*L by omega)).kept (Kp.refl _ _) (fun k _ h h2=>h (.inl h2)) (l_))⟩,hb⟩
theorem delta_t (X:NP) (K:Nat) (vs:VL) (id f:Int) (w:World) (ht:VTs w X K ae_ vs) (hK:K<=4398046510976) :
  Calls prog 140 #[.agg vs.toArray,i_ id,i_ f] w fun e w'=>(∃ n,n<=K/\(∃ A c,vs[40]?=some (.slice A n c))/\RIdx n e)/\Below w w w':=by
 obtain ⟨A,n,c,hf,h⟩:=ht.slc (j:=40) (e:=bl_) rfl;obtain ⟨W,hW,A0,A3,B0⟩:=af_ w vs 65;have d0:=B0.2.1 40 _ hf;have HF:=h_ (n<=K/\(∃ A c,vs[40]?=some (.slice A n c))) (⟨h.le,A,c,hf⟩);have H:=q_ (h.up (Kp.of_below A0) (Nat.le_refl K));have hn:n<=4398046510976:=Nat.le_trans h.le hK;have HW:=q_ A0;clear h hf ht A0 A3 B0;go_enter func140,ntmps140;go_upto_region 1 with fail;rw [←hW];clear hW;go_upto_region 2 with fail;go_loopw [12] (fun i wr=>∃ k:Nat,k<=n/\i=i_ k/\Below W W wr) (fun i _=>n - (intOf i).toNat)
 case atStart=>exact ⟨0,o_,rfl,b_⟩
 obtain ⟨k,hk,rfl,hb⟩:=hrel;have A4:=hb.size;by_cases hlt:k<n
 ·have A1:(k:Int)<(n:Int):=by omega
  obtain ⟨g,o,rfl,hg,x,hx⟩:=H.o.delta_at hlt;obtain ⟨c0,c1,c2,c3,c4⟩:=hx wr hb;have HB:=q_ hb;have A2:=q_ (HW.o.trans (hb.mono HW.o.size));have A5:=A2.o.size;have HR:=h_ (RIdx n (.returned (i_ (k:Int)))) (⟨_,rfl,q_ (.inr ⟨k,hlt,rfl⟩)⟩);clear hx hb;go_wp2;all_goals first
   | (go_ret;exact ⟨⟨n,HF.o.1,HF.o.2,HR.o⟩,(bel A2.o)⟩)
   | (go_roundw
      case rel=>exact ⟨k+1,o_,by go_num,(bel HB.o)⟩
      case measure=>simp [intOf];omega)
 have A1:¬(k:Int)<(n:Int):=by omega
 go_wp2;go_ret;exact ⟨⟨n,HF.o.1,HF.o.2,⟨_,rfl,q_ (.inl rfl)⟩⟩,HW.o.trans (hb.mono HW.o.size)⟩
theorem own_t (X:NP) (K:Nat) (vs:VL) (id:Int) (w:World) (ht:VTs w X K ae_ vs) (hK:K<=4398046510976) :
  Calls prog 139 #[.agg vs.toArray,i_ id] w fun e w'=>(∃ n,n<=K/\(∃ A c,vs[39]?=some (.slice A n c))/\RIdx n e)/\Below w w w':=by
 obtain ⟨A,n,c,hf,h⟩:=ht.slc (j:=39) (e:=objT) rfl;obtain ⟨W,hW,A0,A3,B0⟩:=af_ w vs 65;have d0:=B0.2.1 39 _ hf;have HF:=h_ (n<=K/\(∃ A c,vs[39]?=some (.slice A n c))) (⟨h.le,A,c,hf⟩);have H:=q_ (h.up (Kp.of_below A0) (Nat.le_refl K));have hn:n<=4398046510976:=Nat.le_trans h.le hK;have HW:=q_ A0;clear h hf ht A0 A3 B0;go_enter func139,ntmps139;go_upto_region 1 with fail;rw [←hW];clear hW;go_upto_region 2 with fail;go_loopw [10] (fun i wr=>∃ k:Nat,k<=n/\i=i_ k/\Below W W wr) (fun i _=>n - (intOf i).toNat)
 case atStart=>exact ⟨0,o_,rfl,b_⟩
 obtain ⟨k,hk,rfl,hb⟩:=hrel;have A6:=hb.size;by_cases hlt:k<n
 ·have A1:(k:Int)<(n:Int):=by omega
  obtain ⟨g,o,rfl,hg,x,A4,A5,hx⟩:=H.o.obj_at hlt;obtain ⟨c0,c1⟩:=hx wr hb;have HB:=q_ hb;have A2:=q_ (HW.o.trans (hb.mono HW.o.size));have A7:=A2.o.size;have HR:=h_ (RIdx n (.returned (i_ (k:Int)))) (⟨_,rfl,q_ (.inr ⟨k,hlt,rfl⟩)⟩);clear hx hb;go_wp2;all_goals first
   | (go_ret;exact ⟨⟨n,HF.o.1,HF.o.2,HR.o⟩,(bel A2.o)⟩)
   | (go_roundw
      case rel=>exact ⟨k+1,o_,by go_num,(bel HB.o)⟩
      case measure=>simp [intOf];omega)
 have A1:¬(k:Int)<(n:Int):=by omega
 go_wp2;go_ret;exact ⟨⟨n,HF.o.1,HF.o.2,⟨_,rfl,q_ (.inl rfl)⟩⟩,HW.o.trans (hb.mono HW.o.size)⟩
theorem Active_t (X:NP) (K:Nat) (A:OA) (n c:Nat) (s:Int) (w:World) (h:SlT w X K [.num] A n c) (hK:K<=4398046510976) :
  Calls prog 89 #[.agg #[.slice A n c],i_ s] w fun e w'=>RB e/\Below w w w':=by
 obtain ⟨W,hW,A0,A3,B0⟩:=af_ w [.slice A n c] 32;have d0:=B0.2.1 0 _ rfl;have H:=q_ (h.up (Kp.of_below A0) (Nat.le_refl K));have hn:n<=4398046510976:=Nat.le_trans h.le hK;have HW:=q_ A0;clear h A0 A3 B0;go_enter func89,ntmps89;go_upto_region 1 with fail;rw [←hW];clear hW;go_upto_region 2 with fail;go_loopw [10] (fun i wr=>∃ k:Nat,k<=n/\i=i_ k/\Hid (wr=W)) (fun i _=>n - (intOf i).toNat)
 case atStart=>exact ⟨0,o_,rfl,q_ rfl⟩
 obtain ⟨k,hk,rfl,A2⟩:=hrel;have hw:=A2.o.symm;subst hw;clear A2;by_cases hlt:k<n
 ·have A1:(k:Int)<(n:Int):=by omega
  obtain ⟨g,o,rfl,hg,x,hx⟩:=H.o.num_at hlt;have c0:=hx W (b_);clear hx;go_wp2;all_goals first
   | (go_ret;exact ⟨⟨_,rfl⟩,HW.o⟩)
   | (go_roundw
      case rel=>exact ⟨k+1,o_,by go_num,q_ (by trivial)⟩
      case measure=>simp [intOf];omega)
 have A1:¬(k:Int)<(n:Int):=by omega
 go_wp2;go_ret;exact ⟨⟨_,rfl⟩,HW.o⟩
theorem Valid16_t (X:NP) (K:Nat) (A:OA) (n c:Nat) (v s:Int) (l:List In) (D:OA) (m d:Nat) (w:World) (hs:Sl w w 5 In.cells A n l) (hn:n<=9000000000000) (h:SlT w X K [.num] D m d) (hK:K<=4398046510976) :
  Calls prog 85 #[.agg #[.slice A n c,i_ v,i_ s],.agg #[.slice D m d]] w fun e w'=>RVal l s e/\Below w w w':=by
 obtain ⟨W,hW,A0,A4,B0,B1⟩:=co_ w [.slice A n c,i_ v,i_ s] 26 [.slice D m d] 32;have c0:=B0.2.1 0 _ rfl;have c1:=B0.2.1 1 _ rfl;have c2:=B0.2.1 2 _ rfl;have d0:=B1.2.1 0 _ rfl;have H:=q_ (h.up (Kp.of_below A0) (Nat.le_refl K));have HS:=q_ (hs.up A0);have hm:m<=4398046510976:=Nat.le_trans h.le hK;have HW:=q_ A0;clear h hs A0 A4 B0 B1;go_enter func85,ntmps85;go_upto_region 1 with fail;rw [←hW];clear hW;go_upto_region 2 with fail;go_loopw [10] (fun i wr=>∃ k:Nat,k<=m/\i=i_ k/\Hid (wr=W)) (fun i _=>m - (intOf i).toNat)
 case atStart=>exact ⟨0,o_,rfl,q_ rfl⟩
 obtain ⟨k,hk,rfl,A3⟩:=hrel;have hw:=A3.o.symm;subst hw;clear A3;by_cases hlt:k<m
 ·have A2:(k:Int)<(m:Int):=by omega
  obtain ⟨g,o,rfl,hg,x,hx⟩:=H.o.num_at hlt;have e0:=hx W (b_);clear hx;rcases Nat.eq_zero_or_pos k with h0 | h0
  ·subst h0;rw [Nat.add_zero] at e0;go_wp2;all_goals first
    | (go_ret;exact ⟨rval_no l s,HW.o⟩)
    | (go_roundw
       case rel=>exact ⟨0+1,o_,by go_num,q_ (by trivial)⟩
       case measure=>simp [intOf];omega)
  obtain ⟨j,rfl⟩:∃ j,k=j+1:=⟨k - 1,o_⟩;obtain ⟨g2,o2,A1,_,y,hy⟩:=H.o.num_at (k:=j) o_;injection A1 with A1;injection A1 with hA3 hA4;subst hA3 hA4;have e1:=hy W (b_);have A5:(0:Int)<((j+1:Nat):Int):=by omega
  have A7:IntKind.i64.wrap (((j+1:Nat):Int) - 1)=(j:Int):=by rw [IntKind.wrap_i64];omega
  have A6:(j:Int)<(m:Int):=by omega
  clear hy;go_wp2;all_goals first
   | (go_ret;exact ⟨rval_no l s,HW.o⟩)
   | (go_roundw
      case rel=>exact ⟨j+1+1,o_,by go_num,q_ (by trivial)⟩
      case measure=>simp [intOf];omega)
 have A2:¬(k:Int)<(m:Int):=by omega
 go_wp2_with (go_at_call 72;refine (Valid_any A n c v s l _ HS.o hn).mono ?_;rintro e Y ⟨⟨b,rfl,hg⟩,hY⟩);go_ret;exact ⟨⟨b,rfl,hg⟩,HW.o.trans (hY.mono HW.o.size)⟩
theorem OwT.addr {X:NP} {w:World} {K base n c:Nat} {et:TypeId} {e:List CT} {A:OA} (h:OwT w base et e X K A n c) (hn:0<n):∃ g,A=some (a_ g)/\base<=g/\g<w/\∀ j,w.frozen? (f_ g j)=false:=by
 obtain ⟨xs,ho,_⟩:=h;exact dr_ ho hn
theorem OwT.lo {X:NP} {w:World} {K base n c k:Nat} {et:TypeId} {e:List CT} {A:OA} (h:OwT w base et e X K A n c) (hk:(Value.slice A n c).ownBlock=some k):base<=k/\k<w:=by
 obtain ⟨xs,ho,_⟩:=h;exact an_ ho hk
theorem put_t (X:NP) (K:Nat) (A:OA) (n c:Nat) (y:Cl) (w:World) (ha:SlT w X K as_ A n c) (hK:K<=100000000000) (hX:∀ k,X k->k<w) :
  Calls prog 80 #[.slice A n c,.agg #[i_ y.id,i_ y.field,.bool y.ref,i_ y.n]] w fun e w'=>RSl X (K+1) as_ e w'/\Below w w w':=by
 obtain ⟨i0,A3,A9,A8,A0⟩:=info_parts infoCl;obtain ⟨W,hW,Af,Al,B0⟩:=af_ w [i_ y.id,i_ y.field,.bool y.ref,i_ y.n] 87;have KB:=q_ (fun w' (hb:Below W W w')=>B0.below hb);have Av:=ha.le;have HA:=h_ (SlT W (Wi X (Value.slice none 0 0).ownBlock) (K+1) as_ A n c) ((ha.up (Kp.of_below Af) (Nat.le_refl K)).kept (Kp.refl _ _) (fun k _ h h2=>by rcases h2 with h2 | h2;exact h h2;cases h2) o_);have HW:=q_ Af;have Ao:(w:Nat)<W:=by omega
 have A2:=h_ (∀ k,X k->k<W) (fun k hk=>by have:=hX k hk;omega);clear ha hX B0 Af Al;go_enter func80,ntmps80;go_upto_region 1 with fail;rw [←hW];clear hW;go_upto_region 2 with (at_builtin;refine aq_ rfl _ _ 54 rfl W 87 i0 _ 32 as_ X (K+1) underlying54 A3 A9 A8 A0 rfl d_ none 0 0 (by simp [Act.eval]) (OwT.nil _ _ _ _ _ _) A n c (by simp [Act.eval]) HA.o A2.o m_ o_ (l_) ?_;intro A4 c4 w4 o4 g4 l4;rw [Nat.zero_add] at o4 l4 ⊢;have b4:Below W W w4:=am_ g4 (l_) (fun k hk=>by cases hk);have z4:=b4.size;have O4:=q_ o4;clear o4 l4 g4);have k0:=(KB.o w4 b4).2.1 0 _ rfl;have k1:=(KB.o w4 b4).2.1 1 _ rfl;have B4:=q_ b4;clear b4;go_wp2_with fail;refine (at_t X (K+1) A4 n c4 y.id y.field w4 (O4.o.slT A2.o o_) o_).mono ?_;rintro e w5 ⟨⟨q,rfl,hq⟩,Ag⟩;have B5:=q_ (B4.o.trans (Ag.mono z4));have z5:=B5.o.size;have O5:=q_ (O4.o.below Ag);clear Ag k0 k1;have k0:=(KB.o w5 B5.o).2.1 0 _ rfl;have k1:=(KB.o w5 B5.o).2.1 1 _ rfl;have k2:=(KB.o w5 B5.o).2.1 2 _ rfl;have k3:=(KB.o w5 B5.o).2.1 3 _ rfl;rcases hq.o with h | ⟨i,hi,h⟩
 ·subst h;have Ap:n<=c4:=(O5.o.slT A2.o (by omega:n<=K+1)).cap;have H5:=q_ (O5.o.slT A2.o (by omega:n<=K+1));go_upto_region 7 with fail;go_loopw [6] (fun iv wr=>∃ k:Nat,k<=n/\iv=i_ k/\Below w5 w5 wr) (fun iv _=>n - (intOf iv).toNat)
  case atStart=>exact ⟨0,o_,rfl,b_⟩
  obtain ⟨k,hk,rfl,hb⟩:=hrel;have Ac:Below W W wr:=B5.o.trans (hb.mono z5);have k0:=(KB.o wr Ac).2.1 0 _ rfl;have k1:=(KB.o wr Ac).2.1 1 _ rfl;by_cases hlt:k<n
  ·have Ah:(k:Int)<(n:Int):=by omega
   obtain ⟨g,o,hA,_,x,hx⟩:=H5.o.dp_ hlt;subst hA;obtain ⟨c0,c1,c2,c3⟩:=hx wr hb;clear hx Ac;have HB:=q_ hb;by_cases h1:x.id<y.id
   ·clear hb;go_wp2_with fail;go_quiet (fail);go_wp2;go_roundw
    case rel=>exact ⟨k+1,o_,by go_num,below_drewN ((bel HB.o)) _⟩
    case measure=>simp [intOf];omega
   by_cases h2:x.id=y.id
   ·by_cases h3:x.field<y.field
    ·clear hb;go_wp2_with fail;go_quiet (fail);go_wp2;go_roundw
     case rel=>exact ⟨k+1,o_,by go_num,below_drewN ((bel HB.o)) _⟩
     case measure=>simp [intOf];omega
    skip
    go_wp2_with fail;go_quiet (fail);go_upto_region 9 with fail;obtain ⟨A4,Aa⟩:=ex_ (some ((f_ g o):Addr));have H5:=q_ H5.o;rw [←Aa] at H5 ⊢;clear Aa c0 c1 c2 c3;have hb:Below w5 w5 (wr.drewN nq):=below_drewN hb _;obtain ⟨V,hV⟩:=ex_ (wr.drewN nq);rw [←hV] at hb ⊢;clear hV;have A1:Below W W V:=B5.o.trans (hb.mono z5);have zV:=A1.size;have Ak:=hb.size;have k0:=(KB.o V A1).2.1 0 _ rfl;have k1:=(KB.o V A1).2.1 1 _ rfl;have k2:=(KB.o V A1).2.1 2 _ rfl;have k3:=(KB.o V A1).2.1 3 _ rfl;have hd:Below V V V.drew:=Below.drew (b_);have HU:=h_ (∀ a b r m,SlT (V.drew.alloc (.cells #[i_ a,i_ b,.bool r,i_ m] 87)) X (K+1) as_ (some (a_ V)) 1 1) (fun a b r m=>SlT.lit1 (w:=V.drew) (e:=as_) (ed_ a b r m) _ (fun h=>by have:=A2.o _ h;have:(V.drew:Nat)=V:=rfl;omega) o_);have A5:=h_ (∀ o,Below V V (V.drew.alloc o)) (fun o=>hd.alloc (l_) o);have H9:=q_ (H5.o.up (Kp.of_below hb) (l_));have Ai:∀ w',(Instr.slice 54 (.slice A4 n c4) none (some (i_ (k:Int))) (some (i_ (k:Int)))).run prog w'=.ok (.slice A4 k k) w':=ep_ underlying54 A3 o_;have Aj:∀ w',(Instr.slice 54 (.slice A4 n c4) (some (i_ (k:Int))) none none).run prog w'=.ok (.slice (cutA A4 c4 k 4) (n - k) (c4 - k)) w':=fun w'=>by rw [et_ underlying54 A3 o_,A8]
    clear hd;go_region_law (first
     | (refine br_ rfl (.tmp 63) (.tmp 66) 54 rfl 87 i0 _ 32 as_ X (K+1) underlying54 A3 A9 A8 A0 rfl d_ (some (a_ V)) 1 1 v_ (HU.o _ _ _ _) (cutA A4 c4 k 4) (n - k) (c4 - k) (by simp [Act.eval,Act.put,cutA]) ((H9.o.up (Kp.of_below (A5.o _)) (l_)).drop hk) o_ o_ (fun q A0=>by have:=A2.o q A0;first | (simp;omega) | (simp <;> omega)) m_ o_ ?_;intro A6 c6 w6 o6 b6;have b6:Below V V w6:=(A5.o _).trans (b6.mono (A5.o _).size);have Ad:=q_ (o6.slT (K:=K+1) (fun q A0=>by have:=A2.o q A0;first | (simp;omega) | (simp <;> omega)) o_);clear o6)
     | (refine br_ rfl (.tmp 61) (.tmp 67) 54 rfl 87 i0 _ 32 as_ X (K+1) underlying54 A3 A9 A8 A0 rfl d_ A4 k k v_ ((H9.o.up (Kp.of_below b6) (l_)).take hk k (l_) o_) A6 (1+(n - k)) c6 v_ Ad.o o_ o_ (fun q A0=>by have:=A2.o q A0;have:=b6.size;omega) m_ o_ ?_;intro A7 c7 w7 o7 b7;have b7:Below V V w7:=b6.trans (b7.mono (show (V:Nat)<=_ from b6.size));have O7:=q_ o7;clear o7))
    all_goals
     go_wp2;go_ret;exact ⟨⟨_,_,_,rfl,q_ (O7.o.slT (fun q A0=>by have:=A2.o q A0;have:=b6.size;omega) o_)⟩,(HW.o.trans (A1.mono HW.o.size)).trans (b7.mono (by have:=HW.o.size;omega))⟩
   skip
   go_wp2_with fail;go_quiet (fail);go_upto_region 9 with fail;obtain ⟨A4,Aa⟩:=ex_ (some ((f_ g o):Addr));have H5:=q_ H5.o;rw [←Aa] at H5 ⊢;clear Aa c0 c1 c2 c3;have hb:Below w5 w5 (wr.drewN nq):=below_drewN hb _;obtain ⟨V,hV⟩:=ex_ (wr.drewN nq);rw [←hV] at hb ⊢;clear hV;have A1:Below W W V:=B5.o.trans (hb.mono z5);have zV:=A1.size;have Ak:=hb.size;have k0:=(KB.o V A1).2.1 0 _ rfl;have k1:=(KB.o V A1).2.1 1 _ rfl;have k2:=(KB.o V A1).2.1 2 _ rfl;have k3:=(KB.o V A1).2.1 3 _ rfl;have hd:Below V V V.drew:=Below.drew (b_);have HU:=h_ (∀ a b r m,SlT (V.drew.alloc (.cells #[i_ a,i_ b,.bool r,i_ m] 87)) X (K+1) as_ (some (a_ V)) 1 1) (fun a b r m=>SlT.lit1 (w:=V.drew) (e:=as_) (ed_ a b r m) _ (fun h=>by have:=A2.o _ h;have:(V.drew:Nat)=V:=rfl;omega) o_);have A5:=h_ (∀ o,Below V V (V.drew.alloc o)) (fun o=>hd.alloc (l_) o);have H9:=q_ (H5.o.up (Kp.of_below hb) (l_));have Ai:∀ w',(Instr.slice 54 (.slice A4 n c4) none (some (i_ (k:Int))) (some (i_ (k:Int)))).run prog w'=.ok (.slice A4 k k) w':=ep_ underlying54 A3 o_;have Aj:∀ w',(Instr.slice 54 (.slice A4 n c4) (some (i_ (k:Int))) none none).run prog w'=.ok (.slice (cutA A4 c4 k 4) (n - k) (c4 - k)) w':=fun w'=>by rw [et_ underlying54 A3 o_,A8]
   clear hd;go_region_law (first
    | (refine br_ rfl (.tmp 63) (.tmp 66) 54 rfl 87 i0 _ 32 as_ X (K+1) underlying54 A3 A9 A8 A0 rfl d_ (some (a_ V)) 1 1 v_ (HU.o _ _ _ _) (cutA A4 c4 k 4) (n - k) (c4 - k) (by simp [Act.eval,Act.put,cutA]) ((H9.o.up (Kp.of_below (A5.o _)) (l_)).drop hk) o_ o_ (fun q A0=>by have:=A2.o q A0;first | (simp;omega) | (simp <;> omega)) m_ o_ ?_;intro A6 c6 w6 o6 b6;have b6:Below V V w6:=(A5.o _).trans (b6.mono (A5.o _).size);have Ad:=q_ (o6.slT (K:=K+1) (fun q A0=>by have:=A2.o q A0;first | (simp;omega) | (simp <;> omega)) o_);clear o6)
    | (refine br_ rfl (.tmp 61) (.tmp 67) 54 rfl 87 i0 _ 32 as_ X (K+1) underlying54 A3 A9 A8 A0 rfl d_ A4 k k v_ ((H9.o.up (Kp.of_below b6) (l_)).take hk k (l_) o_) A6 (1+(n - k)) c6 v_ Ad.o o_ o_ (fun q A0=>by have:=A2.o q A0;have:=b6.size;omega) m_ o_ ?_;intro A7 c7 w7 o7 b7;have b7:Below V V w7:=b6.trans (b7.mono (show (V:Nat)<=_ from b6.size));have O7:=q_ o7;clear o7))
   all_goals
    go_wp2;go_ret;exact ⟨⟨_,_,_,rfl,q_ (O7.o.slT (fun q A0=>by have:=A2.o q A0;have:=b6.size;omega) o_)⟩,(HW.o.trans (A1.mono HW.o.size)).trans (b7.mono (by have:=HW.o.size;omega))⟩
  have Ah:¬(k:Int)<(n:Int):=by omega
  obtain rfl:k=n:=by omega
  have hz:k - k=0:=by omega
  clear Ac;go_wp2_with fail;go_quiet (fail);go_upto_region 9 with fail;have hb:Below w5 w5 (wr.drewN nq):=below_drewN hb _;obtain ⟨V,hV⟩:=ex_ (wr.drewN nq);rw [←hV] at hb ⊢;clear hV;have A1:Below W W V:=B5.o.trans (hb.mono z5);have zV:=A1.size;have Ak:=hb.size;have k0:=(KB.o V A1).2.1 0 _ rfl;have k1:=(KB.o V A1).2.1 1 _ rfl;have k2:=(KB.o V A1).2.1 2 _ rfl;have k3:=(KB.o V A1).2.1 3 _ rfl;have hd:Below V V V.drew:=Below.drew (b_);have HU:=h_ (∀ a b r m,SlT (V.drew.alloc (.cells #[i_ a,i_ b,.bool r,i_ m] 87)) X (K+1) as_ (some (a_ V)) 1 1) (fun a b r m=>SlT.lit1 (w:=V.drew) (e:=as_) (ed_ a b r m) _ (fun h=>by have:=A2.o _ h;have:(V.drew:Nat)=V:=rfl;omega) o_);have A5:=h_ (∀ o,Below V V (V.drew.alloc o)) (fun o=>hd.alloc (l_) o);have H9:=q_ (H5.o.up (Kp.of_below hb) (l_));have Ai:∀ w',(Instr.slice 54 (.slice A4 k c4) none (some (i_ (k:Int))) (some (i_ (k:Int)))).run prog w'=.ok (.slice A4 k k) w':=ep_ underlying54 A3 o_;have Aj:∀ w',(Instr.slice 54 (.slice A4 k c4) (some (i_ (k:Int))) none none).run prog w'=.ok (.slice (cutA A4 c4 k 4) (k - k) (c4 - k)) w':=fun w'=>by rw [et_ underlying54 A3 o_,A8]
  clear hd;go_region_law (first
   | (refine step_append_zero rfl (.tmp 63) (.tmp 66) 54 rfl 87 i0 underlying54 A3 (some (a_ V)) 1 1 (l_) v_ (cutA A4 c4 k 4) (c4 - k) (by simp [Act.eval,Act.put,cutA]) ?_)
   | (refine br_ rfl (.tmp 61) (.tmp 67) 54 rfl 87 i0 _ 32 as_ X (K+1) underlying54 A3 A9 A8 A0 rfl d_ A4 k k v_ ((H9.o.up (Kp.of_below (A5.o _)) (l_)).take hk k (l_) o_) (some (a_ V)) 1 1 v_ (HU.o _ _ _ _) o_ o_ (fun q A0=>by have:=A2.o q A0;first | (simp;omega) | (simp <;> omega)) m_ o_ ?_;intro A7 c7 w7 o7 b7;have b7:Below V V w7:=(A5.o _).trans (b7.mono (show (V:Nat)<=_ from (A5.o _).size));have O7:=q_ o7;clear o7))
  all_goals
   go_wp2;go_ret;exact ⟨⟨_,_,_,rfl,q_ (O7.o.slT (fun q A0=>by have:=A2.o q A0;have:=b7.size;simp <;> omega) o_)⟩,(HW.o.trans (A1.mono HW.o.size)).trans (b7.mono (by have:=HW.o.size;omega))⟩
 subst h;have Au:(i:Int)<(n:Int):=by omega
 have An:¬(i:Int)<0:=by omega
 obtain ⟨g,rfl,Aq,Ar,Ab⟩:=O5.o.addr o_;obtain ⟨g',o',Ae,_,x,hx⟩:=(O5.o.slT A2.o (by omega:n<=K+1)).dp_ hi;injection Ae with Ae;injection Ae with h1 h2;subst h1 h2;obtain ⟨c0,c1,c2,c3⟩:=hx w5 (b_);rw [Nat.zero_add] at c0 c1 c2 c3;have f0:=Ab (i*4);have f1:=Ab (i*4+1);have f2:=Ab (i*4+2);have f3:=Ab (i*4+3);have As:w≠g:=by omega
 clear hx Ab;go_wp2;go_ret;have s0:=O5.o.set (k:=i) (j:=0) hi rfl (.num y.id) ⟨g,i*4,none⟩ rfl;have s1:=s0.set (k:=i) (j:=1) hi rfl (.num y.field) ⟨g,i*4+1,none⟩ rfl;have s2:=s1.set (k:=i) (j:=2) hi rfl (.tru y.ref) ⟨g,i*4+2,none⟩ rfl;have s3:=s2.set (k:=i) (j:=3) hi rfl (.num y.n) ⟨g,i*4+3,none⟩ rfl;have Am:Below w w w5:=HW.o.trans (B5.o.mono HW.o.size);exact ⟨⟨_,_,_,rfl,q_ (s3.slT A2.o o_)⟩,(((Am.setCell (by show _<=g;omega) _).setCell (by show _<=g;omega) _).setCell (by show _<=g;omega) _).setCell (by show _<=g;omega) _⟩
end Go.Proofs.YtfolidlmgfhkiaaGreat
