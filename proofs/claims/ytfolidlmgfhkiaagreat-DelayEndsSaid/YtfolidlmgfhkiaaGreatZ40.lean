/- Lemmas: each says what a function of the program leaves, under the conditions that it states. -/
import Derived.Test.YtfolidlmgfhkiaaGreatZ38
import Derived.Test.YtfolidlmgfhkiaaGreatZ39
set_option linter.unusedVariables false
set_option linter.unusedSimpArgs false
set_option maxRecDepth 100000
set_option maxHeartbeats 4000000
namespace Go.Proofs.YtfolidlmgfhkiaaGreat
open Go.RowKit Go.Proofs.Tryz
theorem rest_result {X Z Y:NP} {w0:World} {LL:List LV} {b K L:Nat} {l:List In} {pc:Int} {C:Nat->VL} (w:World) (h:OneS X Z w0 LL b K L l pc Y C w) (hK:K<=1000000000) (hL:100<=L/\L<=9000) (i:Nat) (x:In) (hpc:pc=(i:Int)) (hx:OkI l i x) (hop:x.op=15) :
  Calls prog 127 #[.pointer (some (a_ b)),.agg #[i_ x.op,i_ x.a,i_ x.b,i_ x.c,i_ x.n]] w fun e w'=>e=.returned (.tuple #[])/\Ms X Z w0 LL b K (L+30) l pc Y C w w' (fun j=>j<38):=by
 subst hpc;obtain ⟨V,hV,A6,Aj,W0⟩:=af_ w [i_ x.op,i_ x.a,i_ x.b,i_ x.c,i_ x.n] 202;have H0:=q_ (h.call A6);have I0:=h_ (Lc V Y w [i_ x.op,i_ x.a,i_ x.b,i_ x.c,i_ x.n]) (⟨W0,fun hy=>Nat.lt_irrefl _ (h.fr.lt _ hy)⟩);have P0:=q_ ((Pr.refl b (fun j=>j<38) w Y C).below A6);have HX:=q_ hx;have Au:=h.fr.blt (i:=0) rfl;obtain ⟨k,hk,A7⟩:∃ k:Nat,k<16/\x.a=(k:Int):=⟨x.a.toNat,by have:=hx.a;omega,by have:=hx.a;omega⟩;obtain ⟨op,xa,xb,xc,xn⟩:=x;have A7:xa=(k:Int):=A7;subst A7;have hop:op=15:=hop;subst hop;have v0:=W0.2.1 0 _ rfl;have v1:=W0.2.1 1 _ rfl;have Az:(w:Nat)<V:=by omega
 have Ak:b<V:=by omega
 clear h A6 Aj W0 hx;go_enter func127,ntmps127;go_upto_region 1 with fail;rw [←hV];clear hV;have Av:(k:Int)<16:=by omega
 obtain ⟨rt,r0,_⟩:=H0.o.fr.tru (i:=0) rfl (j:=4+k*2) (ap_ k hk).1 (au_ _ o_);obtain ⟨rn,r1,_⟩:=H0.o.fr.num (i:=0) rfl (j:=4+k*2+1) (ap_ k hk).2.1 (au_ _ o_);go_cut [4] (fun p wx=>∃ q:Nat,p=.pointer (some (a_ q))/\V<=q/\Hid (Bx wx q [.bool rt,i_ rn])/\Hid (Below V V wx))
 case first =>
  exact cuF
 obtain ⟨q,rfl,hq,hB,A2⟩:=hcut;have H1:=q_ (H0.o.call A2.o);have I1:=q_ (I0.o.up (Up.of_below A2.o));have P1:=q_ (P0.o.below A2.o);have Q1:=h_ (Lc wc Y q [.bool rt,i_ rn]) (⟨hB.o,fun hy=>by have:=H0.o.fr.lt _ hy;omega⟩);have y0:=I1.o.cell (j:=0) rfl;have y1:=I1.o.cell (j:=1) rfl;have y2:=I1.o.cell (j:=2) rfl;have y3:=I1.o.cell (j:=3) rfl;have y4:=I1.o.cell (j:=4) rfl;have As:b<wc:=lt_ Ak A2.o.size;clear v0 v1 r0 r1 hB;go_wp2_with fail;refine (root_m wc H1.o hK).mono ?_;rintro e W2 ⟨rfl,Y2,C2,h2,p2⟩;have H2:=q_ h2;have I2:=q_ (I1.o.up p2.1);have P2:=q_ (P1.o.trans p2 (fun j hj=>by show j≠81;omega));obtain ⟨bk,Al,_⟩:=h2.fr.tru (i:=0) rfl (j:=81) rfl rfl;clear h2 p2 y0 y1 y2 y3 y4;cases bk
 case true =>
  go_wp2;refine end0 (by rfl) rfl ?_;exact ⟨rfl,P2.o.ms (H2.o.raise o_)⟩
 have KS:=h_ (∀ w',Below W2 W2 w'->(w'.cell? (a_ w)=some (i_ 15)/\w'.cell? (f_ w 1)=some (i_ (k:Int)))) (fun w' hb=>⟨(I2.o.up (Up.of_below hb)).cell rfl,(I2.o.up (Up.of_below hb)).cell rfl⟩);have Ay:=@run_makeMap prog;have Ag:K<=1000000000:=hK;have A5:IntMap ((W2.alloc (.map #[] 0)).drew) W2 0:=IntMap.made W2.drew;have BM:=h_ (Below W2 W2 ((W2.alloc (.map #[] 0)).drew)) ((Below.drew (b_)).alloc (l_) _);obtain ⟨Am,Ao,A8,Ac⟩:=A5.put (k:=15) (v:=1) m_ d_ d_;obtain ⟨Ah,Ap,A9,Ad⟩:=A8.put (k:=18) (v:=2) m_ d_ d_;obtain ⟨lA,Aw⟩:=A9.look (k:=15) d_;have A3:=q_ (BM.o.trans (am_ Ac t_ (fun k hk=>by injection hk with hk;omega)));have A0:=q_ (A3.o.trans (am_ Ad A3.o.size (fun k hk=>by injection hk with hk;omega)));clear A8 A9 Ac Ad;obtain ⟨An,Aq,Aa,Ae⟩:=A5.put (k:=18) (v:=2) m_ d_ d_;obtain ⟨Ai,Ar,Ab,Af⟩:=Aa.put (k:=15) (v:=1) m_ d_ d_;obtain ⟨lB,Ax⟩:=Ab.look (k:=15) d_;have A4:=q_ (BM.o.trans (am_ Ae t_ (fun k hk=>by injection hk with hk;omega)));have A1:=q_ (A4.o.trans (am_ Af A4.o.size (fun k hk=>by injection hk with hk;omega)));clear Aa Ab Ae Af;clear A5;go_upto_region 37 with fail;clear Al;refine ar_ (S:=fun w':World=>w'.cell? (a_ w)=some (i_ 15)/\w'.cell? (f_ w 1)=some (i_ (k:Int))) rfl (KS.o _ (Below.drew (b_))) (fun _=>?_);go_simp;refine aa_ 0 253 ?_;refine aa_ 1 254 ?_;refine aa_ 2 255 ?_;refine aa_ 3 256 ?_;refine aa_ 8 259 ?_;refine aa_ 9 260 ?_;refine aa_ 12 263 ?_;refine aa_ 13 264 ?_;refine aa_ 14 265 ?_;refine aa_ 15 266 ?_;refine ba_ 4 k_ rfl (fun K hK=>?_);go_simp;refine hK.out _ _ (KS.o _ BM.o) (fun _=>?_);try simp only [Act.put,sA,s0,s1]
 refine wpAnyH_ready (rs:=[5,6]) k_ t_ (AllReadyH.cons rfl (fun K hK=>?_) (AllReadyH.cons rfl (fun K hK=>?_) AllReadyH.nil))
 ·go_simp;refine hK.out _ _ (KS.o _ A3.o) (fun _=>?_);refine bb_ 6 fun K hK=>?_
  go_simp;refine hK.out _ _ (KS.o _ A0.o) (fun _=>?_);refine aa_ 7 258 ?_;refine ba_ 10 k_ rfl (fun K hK=>?_);go_simp;refine hK.out _ _ (KS.o _ A0.o) (fun _=>?_);refine bb_ 11 fun K hK=>?_
  go_simp;go_at_call 124;refine (dy_ Ah (H2.o.call A0.o) Ag o_ 1 lA).mono ?_;rintro e W3 ⟨⟨v,rfl⟩,Y3,C3,h3,p3⟩;have H3:=q_ h3;have P3:=q_ ((P2.o.below A0.o).trans p3 (fun j hj=>⟨o_,o_⟩));have I3:=q_ ((I2.o.up (Up.of_below A0.o)).up p3.1);clear h3 p3;obtain ⟨ut,r0,_⟩:=H3.o.fr.tru (i:=0) rfl (j:=40+k*2) (ap_ k hk).2.2.1 (au_ _ o_);obtain ⟨un,r1,_⟩:=H3.o.fr.num (i:=0) rfl (j:=40+k*2+1) (ap_ k hk).2.2.2 (au_ _ o_);have fb:=H3.o.fr.fz (i:=0) rfl;refine hK.out _ _ ⟨I3.o.cell rfl,I3.o.cell rfl⟩ (fun _=>?_);refine bb_ 16 fun K hK=>?_
  go_simp;refine hK.out _ _ ⟨I3.o.cell rfl,I3.o.cell rfl⟩ (fun _=>?_);refine bb_ 17 fun K hK=>?_
  go_simp;obtain ⟨Y4,C4,h5,p5⟩:=H3.o.setReg hk v;have H5:=q_ h5;have P5:=q_ (P3.o.trans p5 (fun j hj=>.inl o_));have I5:=q_ (I3.o.up p5.1);clear h5 p5;refine hK.out _ _ ⟨I5.o.cell rfl,I5.o.cell rfl⟩ (fun _=>?_);try simp only [Act.put,sA,s0,s1]
  refine wpAnyH_done k_ ?_ _;go_wp2;refine end0 (by rfl) rfl ?_;exact ⟨rfl,P5.o.ms (H5.o.raise o_)⟩
 go_simp;refine hK.out _ _ (KS.o _ A4.o) (fun _=>?_);refine bb_ 5 fun K hK=>?_
 go_simp;refine hK.out _ _ (KS.o _ A1.o) (fun _=>?_);refine aa_ 7 258 ?_;refine ba_ 10 k_ rfl (fun K hK=>?_);go_simp;refine hK.out _ _ (KS.o _ A1.o) (fun _=>?_);refine bb_ 11 fun K hK=>?_
 go_simp;go_at_call 124;refine (dy_ Ai (H2.o.call A1.o) Ag o_ 1 lB).mono ?_;rintro e W3 ⟨⟨v,rfl⟩,Y3,C3,h3,p3⟩;have H3:=q_ h3;have P3:=q_ ((P2.o.below A1.o).trans p3 (fun j hj=>⟨o_,o_⟩));have I3:=q_ ((I2.o.up (Up.of_below A1.o)).up p3.1);clear h3 p3;obtain ⟨ut,r0,_⟩:=H3.o.fr.tru (i:=0) rfl (j:=40+k*2) (ap_ k hk).2.2.1 (au_ _ o_);obtain ⟨un,r1,_⟩:=H3.o.fr.num (i:=0) rfl (j:=40+k*2+1) (ap_ k hk).2.2.2 (au_ _ o_);have fb:=H3.o.fr.fz (i:=0) rfl;refine hK.out _ _ ⟨I3.o.cell rfl,I3.o.cell rfl⟩ (fun _=>?_);refine bb_ 16 fun K hK=>?_
 go_simp;refine hK.out _ _ ⟨I3.o.cell rfl,I3.o.cell rfl⟩ (fun _=>?_);refine bb_ 17 fun K hK=>?_
 go_simp;obtain ⟨Y4,C4,h5,p5⟩:=H3.o.setReg hk v;have H5:=q_ h5;have P5:=q_ (P3.o.trans p5 (fun j hj=>.inl o_));have I5:=q_ (I3.o.up p5.1);clear h5 p5;refine hK.out _ _ ⟨I5.o.cell rfl,I5.o.cell rfl⟩ (fun _=>?_);try simp only [Act.put,sA,s0,s1]
 refine wpAnyH_done k_ ?_ _;go_wp2;refine end0 (by rfl) rfl ?_;exact ⟨rfl,P5.o.ms (H5.o.raise o_)⟩
theorem rest_handler {X Z Y:NP} {w0:World} {LL:List LV} {b K L:Nat} {l:List In} {pc:Int} {C:Nat->VL} (w:World) (h:OneS X Z w0 LL b K L l pc Y C w) (hK:K<=1000000000) (hL:100<=L/\L<=9000) (i:Nat) (x:In) (hpc:pc=(i:Int)) (hx:OkI l i x) (hop:x.op=17) :
  Calls prog 127 #[.pointer (some (a_ b)),.agg #[i_ x.op,i_ x.a,i_ x.b,i_ x.c,i_ x.n]] w fun e w'=>e=.returned (.tuple #[])/\Ms X Z w0 LL b K (L+30) l pc Y C w w' (fun j=>j<38):=by
 subst hpc;obtain ⟨V,hV,A1,A3,W0⟩:=af_ w [i_ x.op,i_ x.a,i_ x.b,i_ x.c,i_ x.n] 202;have H0:=q_ (h.call A1);have I0:=h_ (Lc V Y w [i_ x.op,i_ x.a,i_ x.b,i_ x.c,i_ x.n]) (⟨W0,fun hy=>Nat.lt_irrefl _ (h.fr.lt _ hy)⟩);have P0:=q_ ((Pr.refl b (fun j=>j<38) w Y C).below A1);have HX:=q_ hx;have A6:=h.fr.blt (i:=0) rfl;obtain ⟨k,hk,A2⟩:∃ k:Nat,k<16/\x.a=(k:Int):=⟨x.a.toNat,by have:=hx.a;omega,by have:=hx.a;omega⟩;obtain ⟨op,xa,xb,xc,xn⟩:=x;have A2:xa=(k:Int):=A2;subst A2;have hop:op=17:=hop;subst hop;have v0:=W0.2.1 0 _ rfl;have v1:=W0.2.1 1 _ rfl;have A8:(w:Nat)<V:=by omega
 have A4:b<V:=by omega
 clear h A1 A3 W0 hx;go_enter func127,ntmps127;go_upto_region 1 with fail;rw [←hV];clear hV;have A7:(k:Int)<16:=by omega
 obtain ⟨rt,r0,_⟩:=H0.o.fr.tru (i:=0) rfl (j:=4+k*2) (ap_ k hk).1 (au_ _ o_);obtain ⟨rn,r1,_⟩:=H0.o.fr.num (i:=0) rfl (j:=4+k*2+1) (ap_ k hk).2.1 (au_ _ o_);go_cut [4] (fun p wx=>∃ q:Nat,p=.pointer (some (a_ q))/\V<=q/\Hid (Bx wx q [.bool rt,i_ rn])/\Hid (Below V V wx))
 case first =>
  exact cuF
 obtain ⟨q,rfl,hq,hB,A0⟩:=hcut;have H1:=q_ (H0.o.call A0.o);have I1:=q_ (I0.o.up (Up.of_below A0.o));have P1:=q_ (P0.o.below A0.o);have Q1:=h_ (Lc wc Y q [.bool rt,i_ rn]) (⟨hB.o,fun hy=>by have:=H0.o.fr.lt _ hy;omega⟩);have y0:=I1.o.cell (j:=0) rfl;have y1:=I1.o.cell (j:=1) rfl;have y2:=I1.o.cell (j:=2) rfl;have y3:=I1.o.cell (j:=3) rfl;have y4:=I1.o.cell (j:=4) rfl;have A5:b<wc:=lt_ A4 A0.o.size;clear v0 v1 r0 r1 hB;go_wp2_with (go_at_call 171;refine (frame_m wc H1.o hK o_).mono ?_;rintro e W2 ⟨⟨f,fn,rfl⟩,Y2,C2,h2,p2⟩;have H2:=q_ h2;have I2:=q_ (I1.o.up p2.1);have P2:=q_ (P1.o.trans p2 (fun j hj=>by constructor <;> omega));have z4:=I2.o.cell (j:=4) rfl;clear h2 p2 y0 y1 y2 y3 y4);refine (ea_ W2 H2.o o_ f 2 ⟨false,xn⟩).mono ?_;rintro e W3 ⟨rfl,hM⟩;have HM:=q_ hM;clear hM;go_wp2;refine end0 (by rfl) rfl ?_;obtain ⟨Y3,C3,h3,p3⟩:=HM.o;exact ⟨rfl,(P2.o.trans p3 (fun j hj=>by show j≠73;omega)).ms (h3.raise o_)⟩
theorem rest_none {X Z Y:NP} {w0:World} {LL:List LV} {b K L:Nat} {l:List In} {pc:Int} {C:Nat->VL} (w:World) (h:OneS X Z w0 LL b K L l pc Y C w) (hK:K<=1000000000) (hL:100<=L/\L<=9000) (i:Nat) (x:In) (hpc:pc=(i:Int)) (hx:OkI l i x) (hop:x.op≠5/\x.op≠6/\x.op≠7/\x.op≠13/\x.op≠14/\x.op≠15/\x.op≠18/\x.op≠17) :
  Calls prog 127 #[.pointer (some (a_ b)),.agg #[i_ x.op,i_ x.a,i_ x.b,i_ x.c,i_ x.n]] w fun e w'=>e=.returned (.tuple #[])/\Ms X Z w0 LL b K (L+30) l pc Y C w w' (fun j=>j<38):=by
 subst hpc;obtain ⟨V,hV,A1,A8,W0⟩:=af_ w [i_ x.op,i_ x.a,i_ x.b,i_ x.c,i_ x.n] 202;have H0:=q_ (h.call A1);have I0:=h_ (Lc V Y w [i_ x.op,i_ x.a,i_ x.b,i_ x.c,i_ x.n]) (⟨W0,fun hy=>Nat.lt_irrefl _ (h.fr.lt _ hy)⟩);have P0:=q_ ((Pr.refl b (fun j=>j<38) w Y C).below A1);have HX:=q_ hx;have Ab:=h.fr.blt (i:=0) rfl;obtain ⟨k,hk,A2⟩:∃ k:Nat,k<16/\x.a=(k:Int):=⟨x.a.toNat,by have:=hx.a;omega,by have:=hx.a;omega⟩;obtain ⟨op,xa,xb,xc,xn⟩:=x;have A2:xa=(k:Int):=A2;subst A2;have v0:=W0.2.1 0 _ rfl;have v1:=W0.2.1 1 _ rfl;have Ad:(w:Nat)<V:=by omega
 have A9:b<V:=by omega
 clear h A1 A8 W0 hx;go_enter func127,ntmps127;go_upto_region 1 with fail;rw [←hV];clear hV;have Ac:(k:Int)<16:=by omega
 obtain ⟨rt,r0,_⟩:=H0.o.fr.tru (i:=0) rfl (j:=4+k*2) (ap_ k hk).1 (au_ _ o_);obtain ⟨rn,r1,_⟩:=H0.o.fr.num (i:=0) rfl (j:=4+k*2+1) (ap_ k hk).2.1 (au_ _ o_);go_cut [4] (fun p wx=>∃ q:Nat,p=.pointer (some (a_ q))/\V<=q/\Hid (Bx wx q [.bool rt,i_ rn])/\Hid (Below V V wx))
 case first =>
  exact cuF
 obtain ⟨q,rfl,hq,hB,A0⟩:=hcut;have H1:=q_ (H0.o.call A0.o);have I1:=q_ (I0.o.up (Up.of_below A0.o));have P1:=q_ (P0.o.below A0.o);have Q1:=h_ (Lc wc Y q [.bool rt,i_ rn]) (⟨hB.o,fun hy=>by have:=H0.o.fr.lt _ hy;omega⟩);have y0:=I1.o.cell (j:=0) rfl;have y1:=I1.o.cell (j:=1) rfl;have y2:=I1.o.cell (j:=2) rfl;have y3:=I1.o.cell (j:=3) rfl;have y4:=I1.o.cell (j:=4) rfl;have Aa:b<wc:=lt_ A9 A0.o.size;clear v0 v1 r0 r1 hB;obtain ⟨h5,h6,h7,A3,A4,A5,A7,A6⟩:=hop;have h5:op≠5:=h5;have h6:op≠6:=h6;have h7:op≠7:=h7;have A3:op≠13:=A3;have A4:op≠14:=A4;have A5:op≠15:=A5;have A7:op≠18:=A7;have A6:op≠17:=A6;go_wp2;refine end0 (by rfl) rfl ?_;exact ⟨rfl,P1.o.ms (H1.o.raise o_)⟩
theorem rest_caught {X Z Y:NP} {w0:World} {LL:List LV} {b K L:Nat} {l:List In} {pc:Int} {C:Nat->VL} (w:World) (h:OneS X Z w0 LL b K L l pc Y C w) (hK:K<=1000000000) (hL:100<=L/\L<=9000) (i:Nat) (x:In) (hpc:pc=(i:Int)) (hx:OkI l i x) (hop:x.op=18) :
  Calls prog 127 #[.pointer (some (a_ b)),.agg #[i_ x.op,i_ x.a,i_ x.b,i_ x.c,i_ x.n]] w fun e w'=>e=.returned (.tuple #[])/\Ms X Z w0 LL b K (L+30) l pc Y C w w' (fun j=>j<38):=by
 subst hpc;obtain ⟨V,hV,A6,Aj,W0⟩:=af_ w [i_ x.op,i_ x.a,i_ x.b,i_ x.c,i_ x.n] 202;have H0:=q_ (h.call A6);have I0:=h_ (Lc V Y w [i_ x.op,i_ x.a,i_ x.b,i_ x.c,i_ x.n]) (⟨W0,fun hy=>Nat.lt_irrefl _ (h.fr.lt _ hy)⟩);have P0:=q_ ((Pr.refl b (fun j=>j<38) w Y C).below A6);have HX:=q_ hx;have Au:=h.fr.blt (i:=0) rfl;obtain ⟨k,hk,A7⟩:∃ k:Nat,k<16/\x.a=(k:Int):=⟨x.a.toNat,by have:=hx.a;omega,by have:=hx.a;omega⟩;obtain ⟨op,xa,xb,xc,xn⟩:=x;have A7:xa=(k:Int):=A7;subst A7;have hop:op=18:=hop;subst hop;have v0:=W0.2.1 0 _ rfl;have v1:=W0.2.1 1 _ rfl;have Az:(w:Nat)<V:=by omega
 have Ak:b<V:=by omega
 clear h A6 Aj W0 hx;go_enter func127,ntmps127;go_upto_region 1 with fail;rw [←hV];clear hV;have Av:(k:Int)<16:=by omega
 obtain ⟨rt,r0,_⟩:=H0.o.fr.tru (i:=0) rfl (j:=4+k*2) (ap_ k hk).1 (au_ _ o_);obtain ⟨rn,r1,_⟩:=H0.o.fr.num (i:=0) rfl (j:=4+k*2+1) (ap_ k hk).2.1 (au_ _ o_);go_cut [4] (fun p wx=>∃ q:Nat,p=.pointer (some (a_ q))/\V<=q/\Hid (Bx wx q [.bool rt,i_ rn])/\Hid (Below V V wx))
 case first =>
  exact cuF
 obtain ⟨q,rfl,hq,hB,A2⟩:=hcut;have H1:=q_ (H0.o.call A2.o);have I1:=q_ (I0.o.up (Up.of_below A2.o));have P1:=q_ (P0.o.below A2.o);have Q1:=h_ (Lc wc Y q [.bool rt,i_ rn]) (⟨hB.o,fun hy=>by have:=H0.o.fr.lt _ hy;omega⟩);have y0:=I1.o.cell (j:=0) rfl;have y1:=I1.o.cell (j:=1) rfl;have y2:=I1.o.cell (j:=2) rfl;have y3:=I1.o.cell (j:=3) rfl;have y4:=I1.o.cell (j:=4) rfl;have As:b<wc:=lt_ Ak A2.o.size;clear v0 v1 r0 r1 hB;go_wp2_with fail;refine (root_m wc H1.o hK).mono ?_;rintro e W2 ⟨rfl,Y2,C2,h2,p2⟩;have H2:=q_ h2;have I2:=q_ (I1.o.up p2.1);have P2:=q_ (P1.o.trans p2 (fun j hj=>by show j≠81;omega));obtain ⟨bk,Al,_⟩:=h2.fr.tru (i:=0) rfl (j:=81) rfl rfl;clear h2 p2 y0 y1 y2 y3 y4;cases bk
 case true =>
  go_wp2;refine end0 (by rfl) rfl ?_;exact ⟨rfl,P2.o.ms (H2.o.raise o_)⟩
 have KS:=h_ (∀ w',Below W2 W2 w'->(w'.cell? (a_ w)=some (i_ 18)/\w'.cell? (f_ w 1)=some (i_ (k:Int)))) (fun w' hb=>⟨(I2.o.up (Up.of_below hb)).cell rfl,(I2.o.up (Up.of_below hb)).cell rfl⟩);have Ay:=@run_makeMap prog;have Ag:K<=1000000000:=hK;have A5:IntMap ((W2.alloc (.map #[] 0)).drew) W2 0:=IntMap.made W2.drew;have BM:=h_ (Below W2 W2 ((W2.alloc (.map #[] 0)).drew)) ((Below.drew (b_)).alloc (l_) _);obtain ⟨Am,Ao,A8,Ac⟩:=A5.put (k:=15) (v:=1) m_ d_ d_;obtain ⟨Ah,Ap,A9,Ad⟩:=A8.put (k:=18) (v:=2) m_ d_ d_;obtain ⟨lA,Aw⟩:=A9.look (k:=18) d_;have A3:=q_ (BM.o.trans (am_ Ac t_ (fun k hk=>by injection hk with hk;omega)));have A0:=q_ (A3.o.trans (am_ Ad A3.o.size (fun k hk=>by injection hk with hk;omega)));clear A8 A9 Ac Ad;obtain ⟨An,Aq,Aa,Ae⟩:=A5.put (k:=18) (v:=2) m_ d_ d_;obtain ⟨Ai,Ar,Ab,Af⟩:=Aa.put (k:=15) (v:=1) m_ d_ d_;obtain ⟨lB,Ax⟩:=Ab.look (k:=18) d_;have A4:=q_ (BM.o.trans (am_ Ae t_ (fun k hk=>by injection hk with hk;omega)));have A1:=q_ (A4.o.trans (am_ Af A4.o.size (fun k hk=>by injection hk with hk;omega)));clear Aa Ab Ae Af;clear A5;go_upto_region 37 with fail;clear Al;refine ar_ (S:=fun w':World=>w'.cell? (a_ w)=some (i_ 18)/\w'.cell? (f_ w 1)=some (i_ (k:Int))) rfl (KS.o _ (Below.drew (b_))) (fun _=>?_);go_simp;refine aa_ 0 253 ?_;refine aa_ 1 254 ?_;refine aa_ 2 255 ?_;refine aa_ 3 256 ?_;refine aa_ 8 259 ?_;refine aa_ 9 260 ?_;refine aa_ 12 263 ?_;refine aa_ 13 264 ?_;refine aa_ 14 265 ?_;refine aa_ 15 266 ?_;refine ba_ 4 k_ rfl (fun K hK=>?_);go_simp;refine hK.out _ _ (KS.o _ BM.o) (fun _=>?_);try simp only [Act.put,sA,s0,s1]
 refine wpAnyH_ready (rs:=[5,6]) k_ t_ (AllReadyH.cons rfl (fun K hK=>?_) (AllReadyH.cons rfl (fun K hK=>?_) AllReadyH.nil))
 ·go_simp;refine hK.out _ _ (KS.o _ A3.o) (fun _=>?_);refine bb_ 6 fun K hK=>?_
  go_simp;refine hK.out _ _ (KS.o _ A0.o) (fun _=>?_);refine aa_ 7 258 ?_;refine ba_ 10 k_ rfl (fun K hK=>?_);go_simp;refine hK.out _ _ (KS.o _ A0.o) (fun _=>?_);refine bb_ 11 fun K hK=>?_
  go_simp;go_at_call 124;refine (dy_ Ah (H2.o.call A0.o) Ag o_ 1 lA).mono ?_;rintro e W3 ⟨⟨v,rfl⟩,Y3,C3,h3,p3⟩;have H3:=q_ h3;have P3:=q_ ((P2.o.below A0.o).trans p3 (fun j hj=>⟨o_,o_⟩));have I3:=q_ ((I2.o.up (Up.of_below A0.o)).up p3.1);clear h3 p3;obtain ⟨ut,r0,_⟩:=H3.o.fr.tru (i:=0) rfl (j:=40+k*2) (ap_ k hk).2.2.1 (au_ _ o_);obtain ⟨un,r1,_⟩:=H3.o.fr.num (i:=0) rfl (j:=40+k*2+1) (ap_ k hk).2.2.2 (au_ _ o_);have fb:=H3.o.fr.fz (i:=0) rfl;refine hK.out _ _ ⟨I3.o.cell rfl,I3.o.cell rfl⟩ (fun _=>?_);refine bb_ 16 fun K hK=>?_
  go_simp;refine hK.out _ _ ⟨I3.o.cell rfl,I3.o.cell rfl⟩ (fun _=>?_);refine bb_ 17 fun K hK=>?_
  go_simp;obtain ⟨Y4,C4,h5,p5⟩:=H3.o.setReg hk v;have H5:=q_ h5;have P5:=q_ (P3.o.trans p5 (fun j hj=>.inl o_));have I5:=q_ (I3.o.up p5.1);clear h5 p5;refine hK.out _ _ ⟨I5.o.cell rfl,I5.o.cell rfl⟩ (fun _=>?_);try simp only [Act.put,sA,s0,s1]
  refine wpAnyH_done k_ ?_ _;go_wp2;refine end0 (by rfl) rfl ?_;exact ⟨rfl,P5.o.ms (H5.o.raise o_)⟩
 go_simp;refine hK.out _ _ (KS.o _ A4.o) (fun _=>?_);refine bb_ 5 fun K hK=>?_
 go_simp;refine hK.out _ _ (KS.o _ A1.o) (fun _=>?_);refine aa_ 7 258 ?_;refine ba_ 10 k_ rfl (fun K hK=>?_);go_simp;refine hK.out _ _ (KS.o _ A1.o) (fun _=>?_);refine bb_ 11 fun K hK=>?_
 go_simp;go_at_call 124;refine (dy_ Ai (H2.o.call A1.o) Ag o_ 1 lB).mono ?_;rintro e W3 ⟨⟨v,rfl⟩,Y3,C3,h3,p3⟩;have H3:=q_ h3;have P3:=q_ ((P2.o.below A1.o).trans p3 (fun j hj=>⟨o_,o_⟩));have I3:=q_ ((I2.o.up (Up.of_below A1.o)).up p3.1);clear h3 p3;obtain ⟨ut,r0,_⟩:=H3.o.fr.tru (i:=0) rfl (j:=40+k*2) (ap_ k hk).2.2.1 (au_ _ o_);obtain ⟨un,r1,_⟩:=H3.o.fr.num (i:=0) rfl (j:=40+k*2+1) (ap_ k hk).2.2.2 (au_ _ o_);have fb:=H3.o.fr.fz (i:=0) rfl;refine hK.out _ _ ⟨I3.o.cell rfl,I3.o.cell rfl⟩ (fun _=>?_);refine bb_ 16 fun K hK=>?_
 go_simp;refine hK.out _ _ ⟨I3.o.cell rfl,I3.o.cell rfl⟩ (fun _=>?_);refine bb_ 17 fun K hK=>?_
 go_simp;obtain ⟨Y4,C4,h5,p5⟩:=H3.o.setReg hk v;have H5:=q_ h5;have P5:=q_ (P3.o.trans p5 (fun j hj=>.inl o_));have I5:=q_ (I3.o.up p5.1);clear h5 p5;refine hK.out _ _ ⟨I5.o.cell rfl,I5.o.cell rfl⟩ (fun _=>?_);try simp only [Act.put,sA,s0,s1]
 refine wpAnyH_done k_ ?_ _;go_wp2;refine end0 (by rfl) rfl ?_;exact ⟨rfl,P5.o.ms (H5.o.raise o_)⟩
theorem rest_m {X Z Y:NP} {w0:World} {LL:List LV} {b K L:Nat} {l:List In} {pc:Int} {C:Nat->VL} (w:World) (h:OneS X Z w0 LL b K L l pc Y C w) (hK:K<=1000000000) (hL:100<=L/\L<=9000) (i:Nat) (x:In) (hpc:pc=(i:Int)) (hx:OkI l i x) :
  Calls prog 127 #[.pointer (some (a_ b)),.agg #[i_ x.op,i_ x.a,i_ x.b,i_ x.c,i_ x.n]] w fun e w'=>e=.returned (.tuple #[])/\Ms X Z w0 LL b K (L+30) l pc Y C w w' (fun j=>j<38):=by
 by_cases h5:x.op=5
 ·exact rest_load w h hK hL i x hpc hx h5
 by_cases h6:x.op=6
 ·exact rest_store w h hK hL i x hpc hx h6
 by_cases h7:x.op=7
 ·exact rest_new w h hK hL i x hpc hx h7
 by_cases h13:x.op=13
 ·exact rest_call w h hK hL i x hpc hx h13
 by_cases h14:x.op=14
 ·exact rest_return w h hK hL i x hpc hx h14
 by_cases h15:x.op=15
 ·exact rest_result w h hK hL i x hpc hx h15
 by_cases h18:x.op=18
 ·exact rest_caught w h hK hL i x hpc hx h18
 by_cases h17:x.op=17
 ·exact rest_handler w h hK hL i x hpc hx h17
 exact rest_none w h hK hL i x hpc hx ⟨h5,h6,h7,h13,h14,h15,h18,h17⟩
section
variable {X Z Y:NP} {w0 w:World} {LL:List LV} {b K L:Nat} {l:List In} {pc:Int} {C:Nat->VL}
theorem OneS.setRegs {vs:VL} (h:OneS X Z w0 LL b K L l pc Y C w) (hv:VTs w Y 0 regsT vs) :
  OneS X Z w0 LL b K L l pc Y (upd C b (splice (C b) 40 vs)) (w.setCells b 40 vs)/\Pr b (fun i=>i<40∨72<=i) w Y C (w.setCells b 40 vs) Y (upd C b (splice (C b) 40 vs)):=by
 obtain ⟨f,u⟩:=h.fr.part (i:=0) (o:=40) (N:=0) (us:=regsT) (vs:=vs) rfl rfl d_ hv (fun j h1 h2=>⟨Nat.zero_le _,by
  have:j<72:=h2
  show dg_ j=none
  unfold dg_
  rw [if_neg o_]⟩)
 have hl:(C b).length=82:=h.fr.len (i:=0) rfl;have A1:vs.length=32:=hv.1;have out:∀ i,i<40∨72<=i->(splice (C b) 40 vs)[i]?=(C b)[i]?:=fun i hi=>by
  unfold splice;have A0:((C b).take 40).length=40:=by rw [List.length_take,hl];decide
  rcases hi with hi | hi
  ·rw [List.getElem?_append_left (by rw [A0];exact hi),List.getElem?_take,if_pos hi]
  rw [List.getElem?_append_right (by rw [A0];omega),A0,List.getElem?_append_right (by rw [A1];omega),A1,List.getElem?_drop]
  congr 1;omega
 refine ⟨h.go f u (fun i hi=>?_) (fun hm=>?_),u,fun q hq _=>ad_ _ _ hq,fun i hi=>?_⟩
 ·rw [upd_same];exact out i o_
 ·rw [upd_same];exact cf_ hm (out _ o_) (out _ o_) (out _ o_)
 rw [upd_same];exact out i hi
end
def regs0:VL:=regsT.map CT.zero
theorem regs0_eq:regs0=zl4:=rfl
theorem isz_regs0:(prog.info? 60).map (·.size)=some regs0.length:=by kernel_rfl
theorem mark_m {X Z Y:NP} {w0:World} {LL:List LV} {b K L:Nat} {l:List In} {pc:Int} {C:Nat->VL} (w:World) (h:OneS X Z w0 LL b K L l pc Y C w) (x:In) (hop:x.op=21) :
  Calls prog 125 #[.pointer (some (a_ b)),.agg #[i_ x.op,i_ x.a,i_ x.b,i_ x.c,i_ x.n]] w fun e w'=>e=.returned (.bool true)/\∃ Y' C',OneS X Z w0 LL b K L l pc Y' C' w'/\Pr b (fun j=>j<38) w Y C w' Y' C'/\Hid ((C' b)[38]?=some (i_ 1)):=by
 obtain ⟨V,hV,A0,A1,W0⟩:=af_ w [i_ x.op,i_ x.a,i_ x.b,i_ x.c,i_ x.n] 202;have H0:=q_ (h.call A0);have I0:=h_ (Lc V Y w [i_ x.op,i_ x.a,i_ x.b,i_ x.c,i_ x.n]) (⟨W0,fun hy=>Nat.lt_irrefl _ (h.fr.lt _ hy)⟩);have P0:=q_ ((Pr.refl b (fun j=>j<38) w Y C).below A0);have A3:=h.fr.blt (i:=0) rfl;obtain ⟨op,xa,xb,xc,xn⟩:=x;have hop:op=21:=hop;subst hop;have v0:=W0.2.1 0 _ rfl;have A4:(w:Nat)<V:=by omega
 have A2:b<V:=by omega
 clear h A0 A1 W0;obtain ⟨h1,p1⟩:=H0.o.setRegs (vs:=regs0) (az_ 0 regsT);have HT:=q_ (H0.o.fr.there (i:=0) rfl (o:=40) (n:=regs0.length) (show (40+32:Nat)<=82 by decide));have HO:=h_ (VTs V Y 0 regsT regs0) (az_ 0 regsT);obtain ⟨U,hU⟩:=ex_ (V.setCells b 40 regs0);rw [←hU] at h1 p1;have H1:=q_ h1;have P1:=q_ (P0.o.trans p1 (fun j hj=>.inl o_));have I1:=q_ (I0.o.up p1.1);clear h1 p1;go_enter func125,ntmps125;go_upto_region 1 with fail;rw [←hV];clear hV;go_upto_region 24 with (with_reducible refine ab_ rfl 60 (.tmp 112) (.tmp 108) rfl regs0 w_ (by simp [Act.eval,Act.put,regs0_eq]) HT.o isz_regs0 HO.o.one ?_);rw [←hU];clear hU v0;have y4:=I1.o.cell (j:=4) rfl;obtain ⟨k0,r0,_⟩:=H1.o.fr.num (i:=0) rfl (j:=38) rfl rfl;obtain ⟨k1,r1,_⟩:=H1.o.fr.num (i:=0) rfl (j:=77) rfl rfl;have fb:=H1.o.fr.fz (i:=0) rfl;have hl:∀ C':Nat->VL,(C' b).length=82->38<(C' b).length:=fun C' h=>by omega
 go_region_law fail;all_goals
  obtain ⟨h5,p5⟩:=(H1.o.call (Below.drew (b_))).set (j:=38) (t:=.num) (v:=i_ 1) rfl rfl d_ (.num _) (fun _=>mv_kind (kd:=1) (by rw [gs_,if_pos rfl,if_pos (by have:(upd C b (splice (C b) 40 regs0) b).length=82:=H1.o.fr.len (i:=0) rfl;omega)]) d_);obtain ⟨h6,p6⟩:=h5.set (j:=77) (t:=.num) (v:=i_ xn) rfl rfl d_ (.num _) (fun hm=>cf_ hm (by rw [gs_,if_neg o_]) (by rw [gs_,if_neg o_]) (by rw [gs_,if_neg o_]));have P6:=q_ (((P1.o.below (Below.drew (b_))).trans p5 (fun j hj=>by show j≠38;omega)).trans p6 (fun j hj=>by show j≠77;omega));have H6:=q_ h6;go_wp2;go_ret;first
   | exact ⟨rfl,_,_,H6.o,P6.o,q_ (by
     rw [upd_same,gs_,if_neg d_,upd_same,gs_,if_pos rfl,if_pos (by have:(upd C b (splice (C b) 40 regs0) b).length=82:=H1.o.fr.len (i:=0) rfl;omega)])⟩
   | (have H7:=H6.o
      have P7:=P6.o
      rw [World.setCell_comm _ _ _ _ _ d_] at H7 P7
      exact ⟨rfl,_,_,H7,P7,q_ (by
     rw [upd_same,gs_,if_neg d_,upd_same,gs_,if_pos rfl,if_pos (by have:(upd C b (splice (C b) 40 regs0) b).length=82:=H1.o.fr.len (i:=0) rfl;omega)])⟩)
end Go.Proofs.YtfolidlmgfhkiaaGreat
