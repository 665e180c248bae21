/- Lemmas on functions of the program, under the conditions that each states. -/
import Derived.Test.YtfolidlmgfhkiaaGreatY16
set_option linter.unusedVariables false
set_option linter.unusedSimpArgs false
set_option maxRecDepth 100000
set_option maxHeartbeats 4000000
namespace Go.Proofs.YtfolidlmgfhkiaaGreat
open Go.RowKit Go.Proofs.Tryz
theorem SlT.less' {X Y:NP} {w:World} {K:Nat} {e:List CT} {A:OA} {n c:Nat} (h:SlT w X K e A n c) (hXY:∀ k,k<w.heap.size->Y k->X k):SlT w Y K e A n c:=h.kept (Kp.refl _ _) (fun k hk hx hy=>hx (hXY k hk hy)) (l_)
theorem Asked_t (X:NP) (K:Nat) (A:OA) (n c:Nat) (v s:Int) (l:List In) (HA:OA) (hn hc:Nat) (k:Nat) (ans:Int) (w:World) (hco:SlT w X K ay_ A n c) (hl:Sl w w.heap.size 5 In.cells A n l) (hk:k<n) (hh:SlT w X K objT HA hn hc) (hK:K<=900000000) (hX:∀ k,X k->k<w.heap.size) :
  Calls prog 77 #[.agg #[.slice A n c,i_ v,i_ s],.agg #[.slice HA hn hc],i_ (k:Int),i_ ans] w fun e w'=>RH X K e w'/\Below w w w':=by
 obtain ⟨W,hW,A5,Ai,B0,B1,B2⟩:=et_ w [.slice A n c,i_ v,i_ s] 26 [.slice HA hn hc] 35 [.slice none 0 0] 35;have Al:l.length=n:=hl.len;obtain ⟨ab,ao,rfl,Aj,Aa⟩:=hl.at_ o_;obtain ⟨x,hx⟩:∃ x,l[k]?=some x:=⟨_,ge_ o_⟩;have H:=q_ (hh.kept (Y:=(fun k=>X k\/k=w+2)) (Kp.of_below A5) (fun k hk h1 h2=>by rcases h2 with h2 | h2;exact h1 h2;omega) (Nat.le_refl K));have Ag:=h_ (∀ w',Below W W w'->∀ k,(fun k=>X k\/k=w+2) k->k<w') (fun w' hb q hq=>by have:=hb.size;rcases hq with hq | hq;have:=hX q hq;omega;omega);have Ad:=q_ B2;have Ao:=q_ B1;have HW:=q_ A5;have KS:=h_ (∀ w',Below W W w'->(w'.cell? (a_ w)=some (.slice (some (f_ ab ao)) n c)/\w'.cell? (a_ (w+1))=some (.slice HA hn hc)/\w'.cell? ⟨ab,ao+k*5+4,none⟩=some (i_ x.n))) (fun w' hb =>
  ⟨(B0.below hb).2.1 0 _ rfl,(B1.below hb).2.1 0 _ rfl,(belc (A5.trans (hb.mono A5.size)) Aj).trans (Aa k x hx 4 _ rfl)⟩)
 have Au:(w:Nat)+2<W:=by omega
 have Ar:(k:Int)<(n:Int):=by omega
 obtain ⟨_,a1,_⟩:=KS.o W (b_);clear hco hl hh hX B0 B1 B2 A5 Ai Aa hx Al;go_enter func77,ntmps77;go_upto_region 1 with fail;rw [<-hW];clear hW;go_wp2_with fail;refine (Read_t (fun k=>X k\/k=w+2) K HA hn hc 1 0 W H.o o_).mono ?_;rintro e S ⟨⟨⟨fr,fn⟩,ok,rfl⟩,hS⟩;obtain ⟨V,hV,A9,Ah,V0⟩:=ag_ S [.bool fr,i_ fn] 38;have A0:=h_ (Below W W V) (hS.trans (A9.mono hS.size));have HV:=q_ V0;have v1:=V0.2.1 1 _ rfl;obtain ⟨a0,a1,a2⟩:=KS.o V A0.o;have Ap:(W:Nat)<=S:=hS.size;have Aq:(S:Nat)<V:=by omega
 have Ak:ab<V:=by omega
 have Av:(w:Nat)+2<V:=by omega
 have An:(w:Nat)+1<V:=by omega
 have Am:(w:Nat)<V:=by omega
 clear hS A9 Ah V0;have A1:=h_ (Below V V V.drew) (Below.drew (b_));have A2:=h_ (Below V V (V.drew.alloc (.cells #[.slice none 0 0] 35))) ((Below.drew (b_)).alloc (l_) _);have HZ:=h_ (Bx (V.drew.alloc (.cells #[.slice none 0 0] 35)) V [.slice none 0 0]) (Bx.new V.drew [.slice none 0 0] 35);have HH:=h_ (∀ w',Below V V w'->SlT w' (fun k=>X k\/k=w+2) K objT HA hn hc) (fun w' hb=>H.o.up (Kp.of_below (A0.o.trans (hb.mono A0.o.size))) (l_));have A8:=h_ (∀ w',Below V V w'->∀ k,(fun k=>X k\/k=w+2) k->k<w') (fun w' hb=>Ag.o w' (A0.o.trans (hb.mono A0.o.size)));go_upto_region 2 with fail;rw [<-hV];clear hV;go_cut [11,12] (fun p ok wx=>∃ (q:Nat) (oA:OA) (on oc:Nat) (ob:Bool),p=.pointer (some (a_ q))/\ok=.bool ob/\V<=q/\Hid (Bx wx q [.slice oA on oc])/\Hid (SlT wx (fun k=>X k\/k=w+2) K objT oA on oc)/\Hid (Below V V wx))
 case first =>
  have KV:=h_ (∀ w':World,Below V V w'->(w'.cell? (a_ w)=some (.slice (some (f_ ab ao)) n c)/\w'.cell? (a_ (w+1))=some (.slice HA hn hc)/\w'.cell? ⟨ab,ao+k*5+4,none⟩=some (i_ x.n)/\w'.cell? (f_ S 1)=some (i_ fn))) (fun w' hb=>⟨(KS.o w' (A0.o.trans (hb.mono A0.o.size))).1,(KS.o w' (A0.o.trans (hb.mono A0.o.size))).2.1,(KS.o w' (A0.o.trans (hb.mono A0.o.size))).2.2,(HV.o.below hb).2.1 1 _ rfl⟩);clear v1 a0 a1 a2;refine am_ (S:=fun w':World=>w'.cell? (a_ w)=some (.slice (some (f_ ab ao)) n c)/\w'.cell? (a_ (w+1))=some (.slice HA hn hc)/\w'.cell? ⟨ab,ao+k*5+4,none⟩=some (i_ x.n)/\w'.cell? (f_ S 1)=some (i_ fn)) rfl (KV.o _ A1.out) (fun _=>?_);go_simp;refine aa_ 0 19 ?_;refine aa_ 1 20 ?_;refine aa_ 2 21 ?_;refine aa_ 3 22 ?_;refine aa_ 4 23 ?_;refine aa_ 5 24 ?_;refine aa_ 6 25 ?_;refine aa_ 7 26 ?_;refine aa_ 8 27 ?_;refine aa_ 9 28 ?_;refine aa_ 10 29 ?_;refine aa_ 11 30 ?_;refine wpAnyH_ready (rs:=[12,16]) k_ t_ (AllReadyH.cons rfl (fun K hK=>?_) (AllReadyH.cons rfl (fun K hK=>?_) AllReadyH.nil))
  ·go_simp;go_at_call 129;refine (Write_t (fun k=>X k\/k=w+2) _ HA hn hc fn _ ⟨false,ans⟩ V.drew (HH.o _ A1.out) o_ (A8.o _ A1.out)).mono ?_;rintro e S2 ⟨⟨oA,on,oc,ob,rfl,ho⟩,A3⟩;have BS:=h_ (Below V V S2) (A1.out.trans A3);clear A3;refine hK.out _ _ (KV.o _ BS.o) (fun _=>?_);refine aa_ 13 18 ?_;refine aa_ 14 32 ?_;refine aa_ 15 33 ?_;refine aw_ 16 k_ rfl (fun K hK=>?_);go_simp;have Ac:=q_ (BS.o.alloc BS.o.size (.cells #[.slice none 0 0] 35));have z0:=(Bx.new S2 [.slice none 0 0] 35).2.1 0 _ rfl;have zf:=(Bx.new S2 [.slice none 0 0] 35).2.2;refine hK.out _ _ (KV.o _ Ac.o) (fun _=>?_);refine au_ 17 fun K hK=>?_
   go_simp;have A6:=q_ (BS.o.alloc BS.o.size (.cells #[.slice oA on oc] 35));refine hK.out _ _ (KV.o _ A6.o) (fun _=>?_);refine aa_ 18 12 ?_;refine wpAnyH_done k_ ?_ _;go_wp2_with fail;go_meet;exact ⟨S2,oA,on,oc,ob,rfl,rfl,BS.o.size,q_ (Bx.new S2 [.slice oA on oc] _),q_ (ho.o.up (Kp.of_below ((b_).alloc (l_) _)) (l_)),q_ (BS.o.alloc BS.o.size _)⟩
  go_simp;refine hK.out _ _ (KV.o _ A2.out) (fun _=>?_);refine au_ 12 fun K hK=>?_
  go_simp;go_at_call 129;refine (Write_t (fun k=>(fun k=>X k\/k=w+2) k\/k=V) _ HA hn hc fn _ ⟨false,ans⟩ (V.drew.alloc (.cells #[.slice none 0 0] 35)) ((HH.o _ A1.out).kept (Kp.of_below ((b_).alloc (l_) _)) (fun k hk h1 h2=>by rcases h2 with h2 | h2;exact h1 h2;exact absurd h2 (Nat.ne_of_lt hk)) (l_)) o_ (fun k hk=>by rcases hk with hk | rfl;exact A8.o _ A2.out k hk;simp)).mono ?_;rintro e S2 ⟨⟨oA,on,oc,ob,rfl,ho⟩,A3⟩;have BS:=h_ (Below V V S2) (A2.out.trans (A3.mono A2.out.size));have BZ:=q_ (HZ.o.below A3);have z0:=BZ.o.2.1 0 _ rfl;have zf:=BZ.o.2.2;clear A3;refine hK.out _ _ (KV.o _ BS.o) (fun _=>?_);refine aa_ 13 18 ?_;refine aa_ 14 32 ?_;refine aa_ 15 33 ?_;refine aw_ 17 k_ rfl (fun K hK=>?_);go_simp;have A6:=h_ (Below V V (S2.setCell (a_ V) (.slice oA on oc))) (BS.o.setCell (l_) _);refine hK.out _ _ (KV.o _ A6.o) (fun _=>?_);refine aa_ 18 12 ?_;refine wpAnyH_done k_ ?_ _;go_wp2_with fail;go_meet;exact ⟨V,oA,on,oc,ob,rfl,rfl,l_,q_ (BZ.o.set 0 _),q_ ((ho.o.up ((Kp.refl _ _).setCell (.inl (.inr rfl)) _) (l_)).less' (fun k _ hk=>.inl hk)),q_ (BS.o.setCell (l_) _)⟩
 obtain ⟨q,oA,on,oc,ob,rfl,rfl,hq,hB,hO,Ab⟩:=hcut;have A7:=h_ (Below W W wc) (A0.o.trans (Ab.o.mono A0.o.size));have A4:=q_ (Ad.o.below A7.o);have HF:=h_ (Below w w wc) (HW.o.trans (A7.o.mono HW.o.size));have r0:=A4.o.2.1 0 _ rfl;have rf:=A4.o.2.2;have As:(w:Nat)+2<wc:=A4.o.1;have b0:=hB.o.2.1 0 _ rfl;obtain ⟨_,c1,_⟩:=KS.o wc A7.o;have Af:=hO;have Ae:=q_ (HH.o wc Ab.o);clear a0 a1 a2 v1;cases ob
 case false =>
  go_wp2;refine retC results77 zc_ underlying35 rfl k_ (cs:=[_]) (A4.o.set 0 _).whole rfl ?_;exact ⟨⟨HA,hn,hc,rfl,q_ ((Ae.o.up ((Kp.refl _ _).setCell (.inl (.inr rfl)) _) (l_)).less' (fun k _ hk=>.inl hk))⟩,(bel HF.o)⟩
 go_wp2;refine retC results77 zc_ underlying35 rfl k_ (cs:=[_]) (A4.o.set 0 _).whole rfl ?_;exact ⟨⟨oA,on,oc,rfl,q_ ((Af.o.up ((Kp.refl _ _).setCell (.inl (.inr rfl)) _) (l_)).less' (fun k _ hk=>.inl hk))⟩,(bel HF.o)⟩
theorem fault_m {X Z Y:NP} {w0:World} {LL:List LV} {b K L:Nat} {l:List In} {pc:Int} {C:Nat->VL} (w:World) (h:OneS X Z w0 LL b K L l pc Y C w) (hK:K<=1000000000) (hL:L<=10000) (n:Int) :
  Calls prog 175 #[.pointer (some (a_ b)),i_ n] w fun e w'=>e=.returned (.tuple #[])/\Ms X Z w0 LL b K (L+5) l pc Y C w w' JT:=by
 have HS:=q_ h;clear h;go_enter func175,ntmps175;go_wp2_with fail;refine (throw_m w HS.o hK hL ⟨false,n⟩).mono ?_;rintro e W1 ⟨rfl,h1⟩;have H1:=q_ h1;clear h1;go_wp2;refine end0 zc_ rfl ?_;exact ⟨rfl,H1.o⟩
def ROb (e:Ending):Prop:=∃ (f:Int) (ok:Bool),e=.returned (.tuple #[i_ f,.bool ok])
def RVb (e:Ending):Prop:=∃ (f k:Int) (ok:Bool),e=.returned (.tuple #[i_ f,i_ k,.bool ok])
theorem results_tmp3 {P:Program} {fn:Func} {t u s:Tmp} (h:fn.results=#[.tmp t,.tmp u,.tmp s]) (tmps:Array Value) (w:World) :
  (results fn tmps).run P w=.ok (.tuple #[tmps.getD t undef,tmps.getD u undef,tmps.getD s undef]) w:=by
 simp [results,h]
theorem variable_m {X Z Y:NP} {w0:World} {LL:List LV} {b K L:Nat} {l:List In} {pc:Int} {C:Nat->VL} (w:World) (h:OneS X Z w0 LL b K L l pc Y C w) (hK:K<=1000000000) (hL:L<=9999) (n:Int) :
  Calls prog 177 #[.pointer (some (a_ b)),i_ n] w fun e w'=>RVb e/\Ms X Z w0 LL b K (L+6) l pc Y C w w' JT:=by
 have HS:=q_ h;clear h;go_enter func177,ntmps177;go_wp2_with fail;refine (frame_m w HS.o hK o_).mono ?_;rintro e W1 ⟨⟨f,fn,rfl⟩,Y1,C1,h1,p1⟩;have H1:=q_ h1;have P1:=q_ ((Pr.refl b JT w Y C).trans p1 (fun j hj=>by rcases hj with hj | hj <;> (constructor <;> omega)));obtain ⟨bk,A0,_⟩:=h1.fr.tru (i:=0) rfl (j:=81) rfl rfl;clear h1 p1;cases bk
 case true =>
  go_wp2;refine bodyPost_ret (results_tmp3 zc_ _ _) rfl ?_;exact ⟨⟨_,_,_,rfl⟩,P1.o.ms (H1.o.raise o_)⟩
 go_wp2_with (go_at_call 175;refine (fault_m W1 H1.o hK o_ (-1)).mono ?_;rintro e W2 ⟨rfl,h2⟩;have H2:=q_ h2;clear h2 A0);all_goals first
  | (refine bodyPost_ret (results_tmp3 zc_ _ _) rfl ?_
     obtain ⟨Y2,C2,h2,p2⟩:=H2.o
     exact ⟨⟨_,_,_,rfl⟩,(P1.o.trans p2 (fun j hj=>hj)).ms h2⟩)
  | (refine bodyPost_ret (results_tmp3 zc_ _ _) rfl ?_
     exact ⟨⟨_,_,_,rfl⟩,P1.o.ms (H1.o.raise o_)⟩)
theorem object_m {X Z Y:NP} {w0:World} {LL:List LV} {b K L:Nat} {l:List In} {pc:Int} {C:Nat->VL} (w:World) (h:OneS X Z w0 LL b K L l pc Y C w) (hK:K<=1000000000) (hL:L<=9999) (v:Val) (fd:Int) :
  Calls prog 178 #[.pointer (some (a_ b)),.agg #[.bool v.ref,i_ v.n],i_ fd] w fun e w'=>ROb e/\Ms X Z w0 LL b K (L+5) l pc Y C w w' JT:=by
 obtain ⟨V,hV,A1,A6,W0⟩:=ag_ w [.bool v.ref,i_ v.n] 38;have H0:=q_ (h.call A1);have V0:=h_ (Lc V Y w [.bool v.ref,i_ v.n]) (⟨W0,fun hy=>Nat.lt_irrefl _ (h.fr.lt _ hy)⟩);have P0:=q_ ((Pr.refl b JT w Y C).below A1);have A9:=h.fr.blt (i:=0) rfl;obtain ⟨vr,vn⟩:=v;have v0:=W0.2.1 0 _ rfl;have v1:=W0.2.1 1 _ rfl;have Aa:(w:Nat)<V:=by omega
 have A8:b<V:=by omega
 clear h A1 A6 W0;go_enter func178,ntmps178;go_upto_region 1 with fail;rw [<-hV];clear hV;cases vr
 case false =>
  go_wp2_with (go_at_call 175;refine (fault_m V H0.o hK o_ (-2)).mono ?_;rintro e W2 ⟨rfl,h2⟩;have H2:=q_ h2;clear h2);exact u2_
 by_cases hz:vn=0
 ·subst hz;go_wp2_with (go_at_call 175;refine (fault_m V H0.o hK o_ (-1)).mono ?_;rintro e W2 ⟨rfl,h2⟩;have H2:=q_ h2;clear h2);exact u2_
 obtain ⟨HA,hn,hc,A7,hH,_⟩:=H0.o.fr.slc (i:=0) rfl (j:=36) (e:=objT) rfl rfl;have HH:=h_ (SlT V Y K objT HA hn hc) hH;have KH:=h_ (∀ w',Below V V w'->SlT w' Y K objT HA hn hc) (fun w' hb=>HH.o.go (.of_below hb) (l_));have A3:=h_ (Below V V V.drew) (Below.drew (b_));have A0:=h_ (Below V V (V.drew.alloc (.cells #[i_ 0,.slice none 0 0] 90))) ((Below.drew (b_)).alloc (l_) _);have HZ:=h_ (Bx (V.drew.alloc (.cells #[i_ 0,.slice none 0 0] 90)) V [i_ 0,.slice none 0 0]) (Bx.new V.drew [i_ 0,.slice none 0 0] 90);clear hH;go_upto_region 7 with fail;go_cut [8,9] (fun p ok wx=>∃ (q:Nat) (oi:Int) (oA:OA) (on oc:Nat) (ob:Bool),p=.pointer (some (a_ q))/\ok=.bool ob/\V<=q/\Hid (Bx wx q [i_ oi,.slice oA on oc])/\Hid (Below V V wx))
 case first =>
  go_region_law (first
   | (go_simp;go_at_call 133;refine (Get_t Y K HA hn hc vn V.drew (KH.o _ A3.o) o_).mono ?_;rintro e S ⟨⟨oi,oA,on,oc,ob,rfl⟩,hS⟩;have BS:=h_ (Below V V S) (A3.o.trans hS);clear hS)
   | (go_simp;go_at_call 133;refine (Get_t Y K HA hn hc vn (V.drew.alloc (.cells #[.int .i64 0,.slice none 0 0] 90)) (KH.o _ A0.o) o_).mono ?_;rintro e S ⟨⟨oi,oA,on,oc,ob,rfl⟩,hS⟩;have BS:=h_ (Below V V S) (A0.o.trans (hS.mono A0.o.size));have BZ:=q_ (HZ.o.below hS);have z0:=BZ.o.2.1 0 _ rfl;have z1:=BZ.o.2.1 1 _ rfl;have zf:=BZ.o.2.2;clear hS))
  all_goals
   go_wp2_with fail;go_meet;first
    | exact ⟨_,oi,oA,on,oc,ob,rfl,rfl,BS.o.size,q_ (Bx.new S [.int .i64 oi,.slice oA on oc] _),q_ (BS.o.alloc BS.o.size _)⟩
    | exact ⟨V,oi,oA,on,oc,ob,rfl,rfl,l_,q_ ((BZ.o.set 0 _).set 1 _),q_ ((BS.o.setCell (l_) _).setCell (l_) _)⟩
 obtain ⟨q,oi,oA,on,oc,ob,rfl,rfl,hq,hB,A2⟩:=hcut;have H3:=q_ (H0.o.call A2.o);have P3:=q_ (P0.o.below A2.o);have V3:=V0.o.up (Up.of_below A2.o);have y0:=V3.cell (j:=0) rfl;have y1:=V3.cell (j:=1) rfl;have b1:=hB.o.2.1 1 _ rfl;obtain ⟨bk,Ab,A4⟩:=H3.o.fr.tru (i:=0) rfl (j:=81) rfl rfl;have A5:=q_ A4;have fb:=H3.o.fr.fz (i:=0) rfl;clear A4 v0 v1 A7 V3;cases ob
 case false =>
  go_wp2;refine bodyPost_ret (results_tmp2 zc_ _ _ _) rfl ?_;obtain ⟨Y4,C4,h4,u4,q4,j4⟩:=H3.o.set81 (bk:=bk) A5.o true (fun _=>rfl);exact ⟨⟨_,_,rfl⟩,((P3.o.trans ⟨u4,q4,j4⟩ (fun j hj=>by rcases hj with hj | hj <;> omega)).ms (h4.raise o_))⟩
 by_cases hf:(on:Int)<=fd
 ·go_wp2_with (go_at_call 175;refine (fault_m wc H3.o hK o_ (-1)).mono ?_;rintro e W2 ⟨rfl,h2⟩;have H2:=q_ h2;clear h2);refine bodyPost_ret (results_tmp2 zc_ _ _ _) rfl ?_;obtain ⟨Y2,C2,h2,p2⟩:=H2.o;exact ⟨⟨_,_,rfl⟩,(P3.o.trans p2 (fun j hj=>hj)).ms h2⟩
 go_wp2_with fail;refine bodyPost_ret (results_tmp2 zc_ _ _ _) rfl ?_;exact ⟨⟨_,_,rfl⟩,P3.o.ms (H3.o.raise o_)⟩
end Go.Proofs.YtfolidlmgfhkiaaGreat
