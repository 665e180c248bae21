/- Lemmas: each says what a function of the program leaves, under the conditions that it states. -/
import Derived.Test.YtfolidlmgfhkiaaGreatZ37
set_option linter.unusedVariables false
set_option linter.unusedSimpArgs false
set_option maxRecDepth 100000
set_option maxHeartbeats 8000000
namespace Go.Proofs.YtfolidlmgfhkiaaGreat
open Go.RowKit Go.Proofs.Tryz
theorem SlT.less' {X Y:NP} {w:World} {K:Nat} {e:List CT} {A:OA} {n c:Nat} (h:SlT w X K e A n c) (hXY:∀ k,k<w.heap.size->Y k->X k):SlT w Y K e A n c:=h.kept (Kp.refl _ _) (fun k hk hx hy=>hx (hXY k hk hy)) (l_)
theorem Asked_t (X:NP) (K:Nat) (A:OA) (n c:Nat) (v s:Int) (l:List In) (HA:OA) (hn hc:Nat) (k:Nat) (ans:Int) (w:World) (hco:SlT w X K aw_ A n c) (hl:Sl w w.heap.size 5 In.cells A n l) (hk:k<n) (hh:SlT w X K objT HA hn hc) (hK:K<=900000000) (hX:∀ k,X k->k<w.heap.size) :
  Calls prog 77 #[.agg #[.slice A n c,i_ v,i_ s],.agg #[.slice HA hn hc],i_ (k:Int),i_ ans] w fun e w'=>RH X K e w'/\Below w w w':=by
 obtain ⟨W,hW,A5,Ai,B0,B1,B2⟩:=el_ w [.slice A n c,i_ v,i_ s] 26 [.slice HA hn hc] 35 [.slice none 0 0] 35;have Al:l.length=n:=hl.len;obtain ⟨ab,ao,rfl,Aj,Aa⟩:=hl.at_ o_;obtain ⟨x,hx⟩:∃ x,l[k]?=some x:=⟨_,ge_ o_⟩;have H:=q_ (hh.kept (Y:=(fun k=>X k∨k=w+2)) (Kp.of_below A5) (fun k hk h1 h2=>by rcases h2 with h2 | h2;exact h1 h2;omega) (Nat.le_refl K));have Ag:=h_ (∀ w',Below W W w'->∀ k,(fun k=>X k∨k=w+2) k->k<w') (fun w' hb q hq=>by have:=hb.size;rcases hq with hq | hq;have:=hX q hq;omega;omega);have Ad:=q_ B2;have Ao:=q_ B1;have HW:=q_ A5;have KS:=h_ (∀ w',Below W W w'->(w'.cell? (a_ w)=some (.slice (some (f_ ab ao)) n c)/\w'.cell? (a_ (w+1))=some (.slice HA hn hc)/\w'.cell? ⟨ab,ao+k*5+4,none⟩=some (i_ x.n))) (fun w' hb =>
  ⟨(B0.below hb).2.1 0 _ rfl,(B1.below hb).2.1 0 _ rfl,(belc (A5.trans (hb.mono A5.size)) Aj).trans (Aa k x hx 4 _ rfl)⟩)
 have Au:(w:Nat)+2<W:=by omega
 have Ar:(k:Int)<(n:Int):=by omega
 obtain ⟨_,a1,_⟩:=KS.o W (b_);clear hco hl hh hX B0 B1 B2 A5 Ai Aa hx Al;go_enter func77,ntmps77;go_upto_region 1 with fail;rw [←hW];clear hW;go_wp2_with fail;refine (Read_t (fun k=>X k∨k=w+2) K HA hn hc 1 0 W H.o o_).mono ?_;rintro e S ⟨⟨⟨fr,fn⟩,ok,rfl⟩,hS⟩;obtain ⟨V,hV,A9,Ah,V0⟩:=af_ S [.bool fr,i_ fn] 38;have A0:=h_ (Below W W V) (hS.trans (A9.mono hS.size));have HV:=q_ V0;have v1:=V0.2.1 1 _ rfl;obtain ⟨a0,a1,a2⟩:=KS.o V A0.o;have Ap:(W:Nat)<=S:=hS.size;have Aq:(S:Nat)<V:=by omega
 have Ak:ab<V:=by omega
 have Av:(w:Nat)+2<V:=by omega
 have An:(w:Nat)+1<V:=by omega
 have Am:(w:Nat)<V:=by omega
 clear hS A9 Ah V0;have A1:=h_ (Below V V V.drew) (Below.drew (b_));have A2:=h_ (Below V V (V.drew.alloc (.cells #[.slice none 0 0] 35))) ((Below.drew (b_)).alloc (l_) _);have HZ:=h_ (Bx (V.drew.alloc (.cells #[.slice none 0 0] 35)) V [.slice none 0 0]) (Bx.new V.drew [.slice none 0 0] 35);have HH:=h_ (∀ w',Below V V w'->SlT w' (fun k=>X k∨k=w+2) K objT HA hn hc) (fun w' hb=>H.o.up (Kp.of_below (A0.o.trans (hb.mono A0.o.size))) (l_));have A8:=h_ (∀ w',Below V V w'->∀ k,(fun k=>X k∨k=w+2) k->k<w') (fun w' hb=>Ag.o w' (A0.o.trans (hb.mono A0.o.size)));go_upto_region 2 with fail;rw [←hV];clear hV;go_cut [11,12] (fun p ok wx=>∃ (q:Nat) (oA:OA) (on oc:Nat) (ob:Bool),p=.pointer (some (a_ q))/\ok=.bool ob/\V<=q/\Hid (Bx wx q [.slice oA on oc])/\Hid (SlT wx (fun k=>X k∨k=w+2) K objT oA on oc)/\Hid (Below V V wx))
 case first =>
  have KV:=h_ (∀ w':World,Below V V w'->(w'.cell? (a_ w)=some (.slice (some (f_ ab ao)) n c)/\w'.cell? (a_ (w+1))=some (.slice HA hn hc)/\w'.cell? ⟨ab,ao+k*5+4,none⟩=some (i_ x.n)/\w'.cell? (f_ S 1)=some (i_ fn))) (fun w' hb=>⟨(KS.o w' (A0.o.trans (hb.mono A0.o.size))).1,(KS.o w' (A0.o.trans (hb.mono A0.o.size))).2.1,(KS.o w' (A0.o.trans (hb.mono A0.o.size))).2.2,(HV.o.below hb).2.1 1 _ rfl⟩);clear v1 a0 a1 a2;refine ar_ (S:=fun w':World=>w'.cell? (a_ w)=some (.slice (some (f_ ab ao)) n c)/\w'.cell? (a_ (w+1))=some (.slice HA hn hc)/\w'.cell? ⟨ab,ao+k*5+4,none⟩=some (i_ x.n)/\w'.cell? (f_ S 1)=some (i_ fn)) rfl (KV.o _ A1.out) (fun _=>?_);go_simp;refine aa_ 0 19 ?_;refine aa_ 1 20 ?_;refine aa_ 2 21 ?_;refine aa_ 3 22 ?_;refine aa_ 4 23 ?_;refine aa_ 5 24 ?_;refine aa_ 6 25 ?_;refine aa_ 7 26 ?_;refine aa_ 8 27 ?_;refine aa_ 9 28 ?_;refine aa_ 10 29 ?_;refine aa_ 11 30 ?_;refine wpAnyH_ready (rs:=[12,16]) k_ t_ (AllReadyH.cons rfl (fun K hK=>?_) (AllReadyH.cons rfl (fun K hK=>?_) AllReadyH.nil))
  ·go_simp;go_at_call 129;refine (Write_t (fun k=>X k∨k=w+2) _ HA hn hc fn _ ⟨false,ans⟩ V.drew (HH.o _ A1.out) o_ (A8.o _ A1.out)).mono ?_;rintro e S2 ⟨⟨oA,on,oc,ob,rfl,ho⟩,A3⟩;have BS:=h_ (Below V V S2) (A1.out.trans A3);clear A3;refine hK.out _ _ (KV.o _ BS.o) (fun _=>?_);refine aa_ 13 18 ?_;refine aa_ 14 32 ?_;refine aa_ 15 33 ?_;refine ba_ 16 k_ rfl (fun K hK=>?_);go_simp;have Ac:=q_ (BS.o.alloc BS.o.size (.cells #[.slice none 0 0] 35));have z0:=(Bx.new S2 [.slice none 0 0] 35).2.1 0 _ rfl;have zf:=(Bx.new S2 [.slice none 0 0] 35).2.2;refine hK.out _ _ (KV.o _ Ac.o) (fun _=>?_);refine bb_ 17 fun K hK=>?_
   go_simp;have A6:=q_ (BS.o.alloc BS.o.size (.cells #[.slice oA on oc] 35));refine hK.out _ _ (KV.o _ A6.o) (fun _=>?_);refine aa_ 18 12 ?_;refine wpAnyH_done k_ ?_ _;go_wp2_with fail;go_meet;exact ⟨S2,oA,on,oc,ob,rfl,rfl,BS.o.size,q_ (Bx.new S2 [.slice oA on oc] _),q_ (ho.o.up (Kp.of_below ((b_).alloc (l_) _)) (l_)),q_ (BS.o.alloc BS.o.size _)⟩
  go_simp;refine hK.out _ _ (KV.o _ A2.out) (fun _=>?_);refine bb_ 12 fun K hK=>?_
  go_simp;go_at_call 129;refine (Write_t (fun k=>(fun k=>X k∨k=w+2) k∨k=V) _ HA hn hc fn _ ⟨false,ans⟩ (V.drew.alloc (.cells #[.slice none 0 0] 35)) ((HH.o _ A1.out).kept (Kp.of_below ((b_).alloc (l_) _)) (fun k hk h1 h2=>by rcases h2 with h2 | h2;exact h1 h2;exact absurd h2 (Nat.ne_of_lt hk)) (l_)) o_ (fun k hk=>by rcases hk with hk | rfl;exact A8.o _ A2.out k hk;simp)).mono ?_;rintro e S2 ⟨⟨oA,on,oc,ob,rfl,ho⟩,A3⟩;have BS:=h_ (Below V V S2) (A2.out.trans (A3.mono A2.out.size));have BZ:=q_ (HZ.o.below A3);have z0:=BZ.o.2.1 0 _ rfl;have zf:=BZ.o.2.2;clear A3;refine hK.out _ _ (KV.o _ BS.o) (fun _=>?_);refine aa_ 13 18 ?_;refine aa_ 14 32 ?_;refine aa_ 15 33 ?_;refine ba_ 17 k_ rfl (fun K hK=>?_);go_simp;have A6:=h_ (Below V V (S2.setCell (a_ V) (.slice oA on oc))) (BS.o.setCell (l_) _);refine hK.out _ _ (KV.o _ A6.o) (fun _=>?_);refine aa_ 18 12 ?_;refine wpAnyH_done k_ ?_ _;go_wp2_with fail;go_meet;exact ⟨V,oA,on,oc,ob,rfl,rfl,l_,q_ (BZ.o.set 0 _),q_ ((ho.o.up ((Kp.refl _ _).setCell (.inl (.inr rfl)) _) (l_)).less' (fun k _ hk=>.inl hk)),q_ (BS.o.setCell (l_) _)⟩
 obtain ⟨q,oA,on,oc,ob,rfl,rfl,hq,hB,hO,Ab⟩:=hcut;have A7:=h_ (Below W W wc) (A0.o.trans (Ab.o.mono A0.o.size));have A4:=q_ (Ad.o.below A7.o);have HF:=h_ (Below w w wc) (HW.o.trans (A7.o.mono HW.o.size));have r0:=A4.o.2.1 0 _ rfl;have rf:=A4.o.2.2;have As:(w:Nat)+2<wc:=A4.o.1;have b0:=hB.o.2.1 0 _ rfl;obtain ⟨_,c1,_⟩:=KS.o wc A7.o;have Af:=hO;have Ae:=q_ (HH.o wc Ab.o);clear a0 a1 a2 v1;cases ob
 case false =>
  go_wp2;refine retC results77 (by rfl) underlying35 rfl k_ (cs:=[_]) (A4.o.set 0 _).whole rfl ?_;exact ⟨⟨HA,hn,hc,rfl,q_ ((Ae.o.up ((Kp.refl _ _).setCell (.inl (.inr rfl)) _) (l_)).less' (fun k _ hk=>.inl hk))⟩,(bel HF.o)⟩
 go_wp2;refine retC results77 (by rfl) underlying35 rfl k_ (cs:=[_]) (A4.o.set 0 _).whole rfl ?_;exact ⟨⟨oA,on,oc,rfl,q_ ((Af.o.up ((Kp.refl _ _).setCell (.inl (.inr rfl)) _) (l_)).less' (fun k _ hk=>.inl hk))⟩,(bel HF.o)⟩
theorem Division_m (d:Nat) (X:NP) (K:Nat) (A:OA) (n c:Nat) (v s:Int) (l:List In) (w:World) (hD:Dice w d) (hX:∀ k,X k->k<w) (hXd:X d) (hco:SlT w X K aw_ A n c) (hl:Sl w w 5 In.cells A n l) (hK:K<=900000000) :
  Calls prog 38 #[.pointer (some (a_ d)),.agg #[.slice A n c,i_ v,i_ s]] w fun e w'=>RNums X 2049 e w'/\Rd d w w':=by
 obtain ⟨i0,AM,AO,AP,AQ⟩:=info_parts infoInt;have B2:=hco.le;obtain ⟨W,Y,C,hW,hz,U,F,e0,e1⟩:=Fr.start2 hX K [.sl aw_,.num,.num] [.slice A n c,i_ v,i_ s] 26 (VTs.cons hco.vt (VTs.cons (.num _) (VTs.cons (.num _) VTs.nil))) 2049 [.sl [.num]] [.slice none 0 0] 32 (vts1 (cl_ _ _ _ _));have HL:=q_ (hl.go hco U);have x0:=F.cell (i:=1) rfl (j:=0) (by rw [e0];rfl);have x1:=F.cell (i:=1) rfl (j:=1) (by rw [e0];rfl);have x2:=F.cell (i:=1) rfl (j:=2) (by rw [e0];rfl);have HF:=q_ F;have HD:=q_ hD;have Ar:=q_ hXd;have AK:=q_ hX;have B0:=hD.lt;have A4:d<w+1:=by omega
 have Aq:W=(w.alloc (.cells #[.slice A n c,i_ v,i_ s] 26)).alloc (.cells #[.slice none 0 0] 32):=hW;clear hD hX hXd hco hl U F e0 e1 hW;go_enter func38,ntmps38;go_upto_region 1 with fail;rw [←Aq];clear Aq;go_wp2_with fail;refine (Every_t Y 2049 A n c v s l W HL.o o_ (l_) HF.o.lt).mono ?_;rintro e E ⟨⟨DA,dn,dc,rfl,hE⟩,Au⟩;have F1:=q_ (HF.o.call Au);obtain ⟨V,Y2,C2,hV,AX,u2,f2,As,AL⟩:=F1.o.add1 2049 [.sl [.num]] [.slice DA dn dc] 32 (vts1 hE.o);have An:=q_ (hE.o.go u2 (l_));have HS:=q_ (f2.fs HD.o);have Ac:=h_ ((C2 E)[0]?=some (.slice DA dn dc)) (by rw [As];rfl);have AW:(w:Nat)+1<E:=F1.o.blt (i:=0) rfl;have Am:=q_ HS.o.dice;clear Au hE u2 f2 As AL x0 x1 x2 F1;go_upto_region 2 with fail;rw [←hV];clear hV;go_wp2_with fail;refine (bo_ d 3 V Am.o d_ d_).mono ?_;rintro e w3 ⟨r,hr,rfl,Ay,AS⟩;obtain ⟨Aw,AA⟩:=HS.o.pick Ar.o Ay;have Ag:=q_ Aw;have Ae:=q_ (An.o.go AA (l_));have Aj:(w3:Nat)=E+1:=by omega
 clear Ay AS Aw AA HS An Am;obtain ⟨w0,A0,A1,f⟩:=Ag.o;by_cases hr0:(r:Int)=0
 case pos =>
  have c5:=f.cell (i:=0) rfl Ac.o;have HB:=q_ (f.box (i:=1) rfl);have Ad:=h_ (0<(C2 (w+1)).length) (by rw [f.len (i:=1) rfl];decide);obtain ⟨_,_,_,z0,_,_⟩:=f.slc (i:=1) rfl (j:=0) rfl rfl;have zf:=f.fz (i:=1) rfl;have A6:=h_ (SlT w3 (fun q=>X q∨q=w+1) 2049 [.num] DA dn dc) (Ae.o.less' (fun q _ hq=>by rcases hq with hq | hq;exact f.sub q hq;subst hq;exact (f.blk _ (Fr.mem (i:=1) rfl)).1));have A3:=q_ Ag.o.end_;obtain ⟨A9,n9,c9,q1,q2,q3⟩:∃ A9 n9 c9,A9=DA/\n9=dn/\c9=dc:=⟨_,_,_,rfl,rfl,rfl⟩;rw [←q1,←q2,←q3] at A6 c5;clear q1 q2 q3 f A0 A1;go_wp2_with fail;refine retC results38 (by rfl) underlying32 rfl k_ (cs:=[.slice A9 n9 c9]) ?_ rfl ?_
  ·intro j u hj;refine (HB.o.set 0 (.slice A9 n9 c9)).whole j u ?_
   match j,hj with
   | 0,hj=>rw [gs_,if_pos rfl,if_pos Ad.o];exact hj
  exact ⟨⟨A9,n9,c9,rfl,q_ ((A6.o.up ((Kp.refl _ _).setCell (p:=(a_ (w+1))) (.inl (.inr rfl)) _) (l_)).kept (Kp.refl _ _) (fun q _ h h2=>h (.inl h2)) (l_))⟩,A3.o.set A4 (Nat.le_succ _) _⟩
 have B4:((r:Int) == 0)=false:=by simp;omega
 clear hr0;obtain ⟨Y4,f4,u4⟩:=f.add (fun _=>2049) [.sl [.num]] owN [.slice none 0 0] 32 rfl (fun j t hj=>by
  match j,hj with
  | 0,hj=>injection hj with hj;subst hj;exact ⟨_,rfl,.inr ⟨_,_,rfl,rfl,rfl⟩⟩)
 obtain ⟨V4,Ai⟩:=ex_ (w3.alloc (.cells #[.slice none 0 0] 32));rw [show w3.alloc (.cells [Value.slice none 0 0].toArray 32)=V4 from Ai.symm] at f4 u4;rw [Aj] at f4;have Ao:=q_ (Ae.o.go u4 (l_));obtain ⟨C4,A7⟩:=ex_ (upd C2 (E+1) [.slice none 0 0]);rw [←A7] at f4;have AE:=h_ ((C4 (E+1))[0]?=some (.slice none 0 0)) (by rw [A7,upd_same];rfl);have AD:=h_ ((C4 E)[0]?=some (.slice DA dn dc)) (by rw [A7,ad_ _ _ o_];exact Ac.o);have AJ:=h_ (Fs d X w [⟨E+1,fun _=>2049,[.sl [.num]],owN⟩,⟨E,fun _=>2049,[.sl [.num]],noOw⟩,⟨w+1,fun _=>2049,[.sl [.num]],noOw⟩,⟨w,fun _=>K,[.sl aw_,.num,.num],noOw⟩] Y4 C4 V4) (⟨w0,A0,A1,f4⟩);have c5:=f4.cell (i:=1) rfl AD.o;clear f A0 A1 f4 u4 A7 Ag Ae Ac;go_upto_region 5 with fail;rw [←Ai];clear Ai;go_wp2_with fail;have AZ:=Ao.o.le;clear c5;go_loopw [18] (fun i wr=>∃ (k:Nat) (Y':NP) (C':Nat->VL) (A:OA) (n c:Nat),k<=dn/\n<=k/\i=i_ k/\(C' (E+1))[0]?=some (.slice A n c)/\Hid (Fs d X w [⟨E+1,fun _=>2049,[.sl [.num]],owN⟩,⟨E,fun _=>2049,[.sl [.num]],noOw⟩,⟨w+1,fun _=>2049,[.sl [.num]],noOw⟩,⟨w,fun _=>K,[.sl aw_,.num,.num],noOw⟩] Y' C' wr)/\Hid (SlT wr Y' 2049 [.num] DA dn dc)) (fun i _=>dn - (intOf i).toNat)
 case atStart=>exact ⟨0,Y4,C4,none,0,0,o_,o_,rfl,AE.o,AJ,Ao⟩
 obtain ⟨k,Y',C',A9,n9,c9,hk,B3,rfl,hc,A5,Ab⟩:=hrel;have HC:=q_ hc;clear hc;by_cases hkn:k<dn
 ·have AN:(k:Int)<(dn:Int):=by omega
  obtain ⟨g,o,rfl,hg,x,hx⟩:=Ab.o.num_at hkn;have e0:=hx wr (b_);have Al:=q_ A5.o.dice;clear hx;go_wp2_with fail;refine (bo_ d 2 wr Al.o d_ d_).mono ?_;rintro e w6 ⟨r6,AR,rfl,Az,AT⟩;obtain ⟨Ax,AB⟩:=A5.o.pick Ar.o Az;have Ah:=q_ Ax;have Ap:=q_ (Ab.o.go AB (l_));clear Az AT Ax AB A5 Ab Al e0;by_cases AR:(r6:Int)=0
  ·obtain ⟨w9,A0,A1,f⟩:=Ah.o;have c7:=f.cell (i:=0) rfl HC.o;have Aa:Below w6 w6 (w6.alloc (.cells #[i_ x] 3)):=(b_).alloc (l_) _;obtain ⟨A2,n2,c2,_,h2,B1,hO,hY⟩:=f.own (i:=0) (j:=0) (e:=[.num]) rfl rfl (show owN 0=some 3 from rfl);rw [HC.o] at h2;injection h2 with h2;injection h2 with q1 q2 q3;subst q1 q2 q3;have AH:=h_ (SlT (w6.alloc (.cells #[i_ x] 3)) (Wi Y' (Value.slice A9 n9 c9).ownBlock) 2049 [.num] (some (a_ w6)) 1 1) (SlT.lit1 (e:=[.num]) (VTs.cons (.num _) VTs.nil) _ (fun h=>by
    rcases h with h | h
    ·have:=f.lt _ h;omega
    have:=f.lt _ (hY _ h);omega) o_)
   have AF:=q_ (Ah.o.call Aa);have f7:=f.call Aa;have AI:=h_ (OwT (w6.alloc (.cells #[i_ x] 3)) 0 3 [.num] Y' 2049 A9 n9 c9) (hO.stay (ce_ Aa none) (fun _ h=>by cases h));have Af:=q_ f7.lt;have Ak:=q_ (fun w' (hg:(w6.alloc (.cells #[i_ x] 3)).grownBy w' (Value.slice A9 n9 c9).ownBlock)=>f7.cv_ (i:=0) rfl (j:=0) rfl (show owN 0=some 3 from rfl) HC.o hg);have AY:(E:Nat)+1<(w6.alloc (.cells #[i_ x] 3)).heap.size:=f7.blt (i:=0) rfl;clear f7 f A0 A1 hO hY Aa;go_upto_region 10 with (at_builtin;refine aq_ rfl _ _ 30 rfl 0 3 i0 _ 8 [.num] Y' 2049 underlying30 AM AO AP AQ rfl d_ A9 n9 c9 v_ AI.o (some (a_ w6)) 1 1 v_ AH.o Af.o m_ o_ (Nat.zero_le _) ?_;intro A8 c8 w8 o8 g8 l8;have O8:=q_ o8;have G8:=q_ g8;have L8:=q_ l8;clear c7;have AU:=(Ak.o w8 g8).2.1 0 _ HC.o;have AV:=(Ak.o w8 g8).2.2;clear o8 g8 l8);obtain ⟨Y9,Av,AC⟩:=AF.o.grow (i:=0) rfl (show owN 0=some 3 from rfl) HC.o O8.o o_ G8.o L8.o;have AG:=q_ Av;have A3:=q_ ((Ap.o.up (Kp.of_below ((b_).alloc (l_) _)) (l_)).go AC (l_));clear Av AC;go_wp2_with fail;go_roundw
   case rel=>exact ⟨k+1,Y9,_,A8,n9+1,c8,o_,o_,by go_num,by rw [upd_same,gs_,if_pos rfl,if_pos (e_ HC.o).1],AG,A3⟩
   case measure=>simp [intOf];omega
  go_wp2_with fail;go_roundw
  case rel=>exact ⟨k+1,Y',C',A9,n9,c9,o_,o_,by go_num,HC.o,Ah,Ap⟩
  case measure=>simp [intOf];omega
 have AN:¬(k:Int)<(dn:Int):=by omega
 obtain ⟨w9,A0,A1,f⟩:=A5.o;have c0:=f.cell (i:=0) rfl HC.o;have HB:=q_ (f.box (i:=2) rfl);have Ad:=h_ (0<(C' (w+1)).length) (by rw [f.len (i:=2) rfl];decide);obtain ⟨_,_,_,z0,_,_⟩:=f.slc (i:=2) rfl (j:=0) rfl rfl;have zf:=f.fz (i:=2) rfl;obtain ⟨A2,n2,c2,h2,hs⟩:=f.row_out (i:=0) rfl (j:=0) (e:=[.num]) rfl (show owN 0=some 3 from rfl) (X':=fun q=>X q∨q=w+1) (fun q hq=>by
  rcases hq with hq | hq
  ·exact ⟨f.sub q hq,.inl (by rw [A0.1];exact AK.o q hq)⟩
  subst hq;exact ⟨(f.blk _ (Fr.mem (i:=2) rfl)).1,.inr ⟨_,Fr.mem (i:=2) rfl,rfl⟩⟩)
 rw [HC.o] at h2;injection h2 with h2;injection h2 with q1 q2 q3;subst q1 q2 q3;have A6:=q_ hs;have A3:=q_ A5.o.end_;clear hs A0 A1 f Ab;go_wp2_with fail;refine retC results38 (by rfl) underlying32 rfl k_ (cs:=[.slice A9 n9 c9]) ?_ rfl ?_
 ·intro j u hj;refine (HB.o.set 0 (.slice A9 n9 c9)).whole j u ?_
  match j,hj with
  | 0,hj=>rw [gs_,if_pos rfl,if_pos Ad.o];exact hj
 exact ⟨⟨A9,n9,c9,rfl,q_ ((A6.o.up ((Kp.refl _ _).setCell (p:=(a_ (w+1))) (.inl (.inr rfl)) _) (l_)).kept (Kp.refl _ _) (fun q _ h h2=>h (.inl h2)) (l_))⟩,A3.o.set A4 (Nat.le_succ _) _⟩
end Go.Proofs.YtfolidlmgfhkiaaGreat
namespace Go.Proofs.YtfolidlmgfhkiaaGreat
open Go.RowKit Go.Proofs.Tryz
def row48 (w:World) (b o:Nat):Array Value:=((List.range 48).map fun j=>(w.cell? ⟨b,o+j,none⟩).getD undef).toArray
def row48V (w:World):Value->Array Value
 | .pointer (some ⟨b,o,none⟩)=>row48 w b o
 | _=>#[]
def There48 (w:World) (v:Value):Prop:=∃ b o,∃ vs:VL,v=.pointer (some (f_ b o))/\vs.length=48/\w.rangeAt b o vs
theorem row48_at {w:World} {b o:Nat} {vs:VL} (hl:vs.length=48) (h:w.rangeAt b o vs):row48 w b o=vs.toArray:=by
 unfold row48
 congr 1
 apply List.ext_getElem?;intro j;by_cases hj:j<48
 ·have hc:vs[j]?=some (vs[j]'o_):=ge_ o_;rw [List.getElem?_map,List.getElem?_range hj,hc,Option.map_some,h j _ hc];rfl
 rw [List.getElem?_eq_none (by simp;omega),List.getElem?_eq_none o_]
theorem exec48 (ρ:Operand->Value) (x:Operand) (d:Option Nat) (ty:TypeId) (pos:String) (af:Array Edge) (gd:Option (Nat × Bool)) (w:World) (h:There48 w (ρ x)) :
  Sem.run prog (execOp ρ { dst:=d,op:=.load 65 x,type:=ty,pos:=pos,after:=af,guard:=gd }) w=.ok (.value (.agg (row48V w (ρ x)))) w:=by
 obtain ⟨b,o,vs,hv,hl,ht⟩:=h;have h1:=run_loadAt_mid (P:=prog) w b o _ vs _ ht underlying65 rfl (by rw [hl];kernel_rfl);unfold execOp;simp only [hv,Sem.run_bind,h1,Result.andThen_ok,Sem.run_pure,row48V,row48_at hl ht]
attribute [local go_sem ↓] exec48
end Go.Proofs.YtfolidlmgfhkiaaGreat
namespace Go.Proofs.YtfolidlmgfhkiaaGreat
open Go.RowKit Go.Proofs.Tryz
attribute [local go_sem ↓] exec48
structure SlE (w:World) (B:Nat) (X:NP) (K:Nat) (e:List CT) (A:OA) (n:Nat):Prop where
 le:n<=K
 el:∀ k,k<n->∃ g o,A=some (f_ g o)/\g<B/\B<=w/\∃ vs,VTs w X K e vs/\∀ j u,vs[j]?=some u->w.cell? ⟨g,o+k*e.length+j,none⟩=some u
theorem SlE.kept {w w':World} {B K n:Nat} {X Y Z:NP} {e:List CT} {A:OA} (h:SlE w B X K e A n) (hk:Kp Z w w') (hZ:∀ k,k<w.heap.size->Z k->X k/\B<=k) (hXY:∀ k,k<w.heap.size->¬X k->¬Y k):SlE w' B Y K e A n :=
 ⟨h.le,fun k A0=>by
  obtain ⟨g,o,hA,hg,hB,vs,hv,hm⟩:=h.el k A0
  exact ⟨g,o,hA,hg,Nat.le_trans hB hk.size,vs,hv.kept (hk.mono (fun q hq h=>(hZ q hq h).1)) hXY (l_),fun j u hu=>(hk.cell o_ (fun h=>by have:=(hZ g o_ h).2;omega)).trans (hm j u hu)⟩⟩
theorem SlE.at0 {w:World} {B K n k:Nat} {X:NP} {e:List CT} {A:OA} (h:SlE w B X K e A n) (hk:k<n):∃ g o,A=some (f_ g o)/\g<w/\∃ vs,VTs w X K e vs/\∀ w',Below w w w'->∀ j u,vs[j]?=some u->w'.cell? ⟨g,o+k*e.length+j,none⟩=some u:=by
 obtain ⟨g,o,hA,hg,hB,vs,hv,hm⟩:=h.el k hk;exact ⟨g,o,hA,o_,vs,hv,fun w' hb j u hu=>(belc hb o_).trans (hm j u hu)⟩
theorem OwT.sle {w:World} {base K n c:Nat} {et:TypeId} {e:List CT} {Y:NP} {A:OA} (h:OwT w base et e Y K A n c) (hn:n<=K):SlE w w (Wi Y (Value.slice A n c).ownBlock) K e A n:=by
 obtain ⟨xs,A0,hx⟩:=h;refine ⟨hn,fun k hk=>?_⟩;rcases A0.2 with ⟨h',_⟩ | ⟨g,cap,cur,h',hbg,hg,_⟩
 ·injection h' with q1 q2 q3;omega
 injection h' with q1 _ q3;subst q1 q3;have A2:=(own_src A0).2 _ rfl;refine ⟨g,0,rfl,?_,l_,(List.range e.length).map (fun j=>xs.getD (k*e.length+j) undef),⟨by simp,fun j t hj=>?_⟩,fun j u hu=>?_⟩
 ·rcases Nat.lt_or_ge g w with q | q
  ·exact q
  rw [Array.getElem?_eq_none q] at hg;cases hg
 ·have A1:j<e.length:=(e_ hj).1;obtain ⟨u,hu,hv⟩:=hx k j t hk hj;refine ⟨u,?_,hv⟩;rw [List.getElem?_map,List.getElem?_range A1];show some (xs.getD (k*e.length+j) undef)=some u
  rw [List.getD_eq_getElem?_getD,hu];rfl
 have A1:j<e.length:=by have:=(e_ hu).1;simpa using this
 rw [List.getElem?_map,List.getElem?_range A1] at hu;injection hu with hu;obtain ⟨v,A3,A4⟩:=hx k j _ hk (ge_ A1);have hu:xs.getD (k*e.length+j) undef=u:=hu;rw [List.getD_eq_getElem?_getD,A3] at hu;have hu:v=u:=hu;subst hu;have:=A2 _ v A3;rw [Addr.add_lit] at this;rw [show 0+k*e.length+j=0+(k*e.length+j) from by omega];exact this
theorem View_e (X:NP) (K:Nat) (A:OA) (n c:Nat) (L N:Nat) (TA:OA) (tn tc:Nat) (kk:Int) (w:World) (h:SlT w X K objT A n c) (ht:SlE w w X L ae_ TA tn) (hN:tn<=N) (hK:K+2*L*N<=1000000000000) (hL:L<=1000000000000) (hX:∀ k,X k->k<w) :
  Calls prog 47 #[.agg #[.slice A n c],.slice TA tn tc,i_ kk] w fun e w'=>RH X (K+2*L*N) e w'/\Below w w w':=by
 obtain ⟨i0,AE,AH,AI,AJ⟩:=info_parts infoOb;obtain ⟨W,hW,Ae,AD,B0,B1⟩:=co_ w [.slice A n c] 35 [.slice none 0 0] 35;have Ag:∀ k,k<w.heap.size->¬X k->¬(X k∨(w.heap.size<=k/\k<w.heap.size+2)):=fun k hk h1 h2=>by rcases h2 with h2 | h2;exact h1 h2;omega
 have H:=q_ (h.kept (Y:=fun k=>X k∨(w<=k/\k<w+2)) (Kp.of_below Ae) Ag (Nat.le_refl K));have HT:=q_ (ht.kept (Y:=fun k=>X k∨(w<=k/\k<w+2)) (Kp.of_below (X:=fun _=>False) Ae) (fun _ _ h=>h.elim) Ag);have HW:=q_ Ae;have Ax:=q_ B1;have AG:=h.le;have AL:=ht.le;have Aj:∀ i,i<=tn->2*L*i<=2*L*N:=fun i hi=>Nat.mul_le_mul_left _ o_
 have A8:=h_ (∀ k,(X k∨(w<=k/\k<w+2))->k<W) (fun k hk=>by rcases hk with hk | hk;have:=hX k hk;omega;omega);have Av:(w:Nat)+2=W:=by omega
 have Ah:=q_ Av;have c0:=B0.2.1 0 _ rfl;have AK:=Aj 0 o_;have Ab:=q_ Aj;clear h ht hX B0 B1 Ae AD Ag Av Aj;go_enter func47,ntmps47;go_upto_region 1 with fail;rw [←hW];clear hW;have HA:=h_ (SlT W (Wi (fun k=>X k∨(w.heap.size<=k/\k<w.heap.size+2)) (Value.slice none 0 0).ownBlock) K objT A n c) (H.o.kept (Kp.refl _ _) (fun k _ h h2=>by rcases h2 with h2 | h2;exact h h2;cases h2) (Nat.le_refl K));go_upto_region 2 with (at_builtin;refine aq_ rfl _ _ 33 rfl W.heap.size 90 i0 _ 32 objT (fun k=>X k∨(w.heap.size<=k/\k<w.heap.size+2)) K underlying33 AE AH AI AJ rfl d_ none 0 0 (by simp [Act.eval]) (OwT.nil _ _ _ _ _ _) A n c (by simp [Act.eval]) HA.o A8.o m_ o_ (l_) ?_;intro A4 c4 w4 o4 g4 l4;rw [Nat.zero_add] at o4 l4 ⊢;have b4:Below W.heap.size W w4:=am_ g4 (l_) (fun k hk=>by cases hk);have O4:=q_ (o4.slT A8.o AG);have B4:=q_ b4;clear o4 l4 g4 b4 c0);obtain ⟨V,hV,Ad,AC,V0⟩:=af_ w4 [.slice A4 n c4] 35;have Aw:=B4.o.size;have Ai:∀ k,k<w4.heap.size->¬(X k∨(w.heap.size<=k/\k<w.heap.size+2))->¬(fun k=>X k∨(w.heap.size<=k/\k<w.heap.size+2)∨k=w4.heap.size) k:=fun k hk h1 h2=>by rcases h2 with h2 | h2 | h2;exact h1 (.inl h2);exact h1 (.inr h2);omega
 have Ay:=q_ (O4.o.kept (Y:=(fun k=>X k∨(w<=k/\k<w+2)∨k=w4)) (Kp.of_below Ad) Ai (show K<=K+2*L*0 by omega));have Az:=q_ ((HT.o.kept (Kp.of_below (X:=fun _=>False) B4.o) (fun _ _ h=>h.elim) (fun _ _ h=>h)).kept (Y:=(fun k=>X k∨(w<=k/\k<w+2)∨k=w4)) (Kp.of_below (X:=fun _=>False) Ad) (fun _ _ h=>h.elim) Ai);have Af:=h_ (Below W W V) (B4.o.trans (Ad.mono Aw));have AA:=q_ (Ax.o.below Af.o);have AB:=q_ V0;have Ar:=h_ (∀ k,(fun k=>X k∨(w<=k/\k<w+2)∨k=w4) k->k<V) (fun k hk=>by rcases hk with hk | hk | hk;have:=A8.o k (.inl hk);omega;have:=A8.o k (.inr hk);omega;omega);have A7:=q_ (show (w:Nat)+2<=w4 by have:=Ah.o;omega);have Aq:=q_ (show (w4:Nat)<V by omega);rw [←hV];clear hV Ad AC V0 Ai Aw H HT HA A8;go_upto_region 3 with fail;go_loopw [8] (fun i wr=>∃ (k:Nat) (D:OA) (u d:Nat),k<=tn/\i=i_ k/\Hid (SlT wr (fun k=>X k∨(w<=k/\k<w+2)∨k=w4) (K+2*L*k) objT D u d)/\Hid (Bx wr w4 [.slice D u d])/\Hid (Bx wr (w+1) [.slice none 0 0])/\Hid (Kp (fun k=>k=w4) V wr)) (fun i _=>tn - (intOf i).toNat)
 case atStart=>exact ⟨0,A4,n,c4,o_,rfl,Ay,AB,AA,q_ (Kp.refl _ _)⟩
 obtain ⟨k,D,u,d,hk,rfl,hC,A9,A3,A5⟩:=hrel;have AN:=A5.o.size;have Al:Kp (fun k=>X k∨(w<=k/\k<w+2)∨k=w4) V wr:=A5.o.mono (fun k _ h=>.inr (.inr h));by_cases h1:(k:Int)<kk
 ·by_cases h2:(k:Int)<(tn:Int)
  ·obtain ⟨g,o,rfl,hg,vs,Am,A0⟩:=(Az.o.kept A5.o (fun q _ hq=>⟨.inr (.inr hq),by have:=A7.o;omega⟩) (fun _ _ h=>h)).at0 (k:=k) o_;have AM:(prog.info? 65).map (·.size)=some vs.length:=by rw [Am.1];kernel_rfl
   have AF:ae_.length=48:=rfl;rw [AF] at A0;have Ac:=q_ Am;have An:=h_ (∀ w',Below wr wr w'->w'.rangeAt g (o+k*48) vs) (fun w' hb j v hv=>A0 w' hb j v hv);have Ak:Below wr wr wr.drew:=Below.drew (b_);have A2:=q_ Ak;have b0:=(A9.o.below Ak).2.1 0 _ rfl;clear Am A0 Al Ak;go_upto_region 5 with fail;have Au:There48 wr.drew (.pointer (some ⟨g,o+k*48,none⟩)):=⟨g,o+k*48,vs,rfl,Ac.o.1,An.o _ A2.o⟩;have Aa:row48V wr.drew (.pointer (some ⟨g,o+k*48,none⟩))=vs.toArray:=row48_at Ac.o.1 (An.o _ A2.o);go_region_law (first
    | (go_at_call 83;refine (Over_t (fun k=>X k∨(w<=k/\k<w+2)∨k=w4) (K+2*L*k) D u d L vs wr.drew (hC.o.up (Kp.of_below A2.o) (l_)) (by have:=Ab.o k hk;omega) (Ac.o.up (Kp.of_below A2.o) (l_)) hL (fun q hq=>by have:=Ar.o q hq;have:(wr.drew:Nat)=wr:=rfl;omega)).mono ?_;rintro e S ⟨⟨C2,q2,d3,rfl,As⟩,hS⟩;have A1:Below wr wr S:=A2.o.trans hS;have A6:=q_ (A9.o.below A1);have Ap:=q_ (A3.o.below A1);have Ao:=q_ (A5.o.trans (.of_below A1));have y0:=A6.o.2.1 0 _ rfl;have y1:=A6.o.2.2;clear hS A1 b0 Au Aa)
    | (go_simp;go_at_call 83;refine (Over_t (fun k=>X k∨(w<=k/\k<w+2)∨k=w4) (K+2*L*k) D u d L vs wr.drew (hC.o.up (Kp.of_below A2.o) (l_)) (by have:=Ab.o k hk;omega) (Ac.o.up (Kp.of_below A2.o) (l_)) hL (fun q hq=>by have:=Ar.o q hq;have:(wr.drew:Nat)=wr:=rfl;omega)).mono ?_;rintro e S ⟨⟨C2,q2,d3,rfl,As⟩,hS⟩;have A1:Below wr wr S:=A2.o.trans hS;have A6:=q_ (A9.o.below A1);have Ap:=q_ (A3.o.below A1);have Ao:=q_ (A5.o.trans (.of_below A1));have y0:=A6.o.2.1 0 _ rfl;have y1:=A6.o.2.2;clear hS A1 b0 Au Aa))
   all_goals
    try go_wp2
    go_roundw
    case rel=>exact ⟨k+1,C2,q2,d3,o_,by go_num,q_ (As.o.up ((Kp.refl _ S).setCell (p:=(a_ w4)) (.inl (.inr (.inr rfl))) _) (by rw [Nat.mul_succ];omega)),q_ (A6.o.set 0 _),q_ (Ap.o.far (by have:=A7.o;show (w4:Nat)≠w+1;omega) _),q_ (Ao.o.setCell (p:=(a_ w4)) (.inl rfl) _)⟩
    case measure=>simp [intOf];omega
  have d0:=A9.o.2.1 0 _ rfl;have d1:=A3.o.2.1 0 _ rfl;have d2:=A3.o.2.2;clear Al;go_wp2;refine retC results47 (by rfl) underlying35 rfl k_ (cs:=[_]) (A3.o.set 0 _).whole rfl ?_;have hb:Below w w (wr.setCell (a_ (w+1)) (.slice D u d)):=((HW.o.trans (Af.o.mono (by have:=Ah.o;omega))).trans (A5.o.below (B:=w) (by have:=A7.o;have:=Aq.o;omega) (fun k hk h=>by have:=A7.o;omega))).setCell (by show (w:Nat)<=w+1;omega) _;exact ⟨⟨_,_,_,rfl,q_ ((hC.o.up ((Kp.refl _ wr).setCell (p:=(a_ (w+1))) (.inl (.inr (.inl ⟨by show (w:Nat)<=w+1;omega,by show (w:Nat)+1<w+2;omega⟩))) _) (show K+2*L*k<=K+2*L*N by have:=Ab.o k hk;omega)).kept (Kp.refl _ _) (fun k _ h h2=>h (.inl h2)) (l_))⟩,hb⟩
 have d0:=A9.o.2.1 0 _ rfl;have d1:=A3.o.2.1 0 _ rfl;have d2:=A3.o.2.2;clear Al;go_wp2;refine retC results47 (by rfl) underlying35 rfl k_ (cs:=[_]) (A3.o.set 0 _).whole rfl ?_;have hb:Below w w (wr.setCell (a_ (w+1)) (.slice D u d)):=((HW.o.trans (Af.o.mono (by have:=Ah.o;omega))).trans (A5.o.below (B:=w) (by have:=A7.o;have:=Aq.o;omega) (fun k hk h=>by have:=A7.o;omega))).setCell (by show (w:Nat)<=w+1;omega) _;exact ⟨⟨_,_,_,rfl,q_ ((hC.o.up ((Kp.refl _ wr).setCell (p:=(a_ (w+1))) (.inl (.inr (.inl ⟨by show (w:Nat)<=w+1;omega,by show (w:Nat)+1<w+2;omega⟩))) _) (show K+2*L*k<=K+2*L*N by have:=Ab.o k hk;omega)).kept (Kp.refl _ _) (fun k _ h h2=>h (.inl h2)) (l_))⟩,hb⟩
end Go.Proofs.YtfolidlmgfhkiaaGreat
namespace Go.Proofs.YtfolidlmgfhkiaaGreat
open Go.RowKit Go.Proofs.Tryz
theorem rest_load {X Z Y:NP} {w0:World} {LL:List LV} {b K L:Nat} {l:List In} {pc:Int} {C:Nat->VL} (w:World) (h:OneS X Z w0 LL b K L l pc Y C w) (hK:K<=1000000000) (hL:100<=L/\L<=9000) (i:Nat) (x:In) (hpc:pc=(i:Int)) (hx:OkI l i x) (hop:x.op=5) :
  Calls prog 127 #[.pointer (some (a_ b)),.agg #[i_ x.op,i_ x.a,i_ x.b,i_ x.c,i_ x.n]] w fun e w'=>e=.returned (.tuple #[])/\Ms X Z w0 LL b K (L+30) l pc Y C w w' (fun j=>j<38):=by
 subst hpc;obtain ⟨V,hV,A1,A4,W0⟩:=af_ w [i_ x.op,i_ x.a,i_ x.b,i_ x.c,i_ x.n] 202;have H0:=q_ (h.call A1);have I0:=h_ (Lc V Y w [i_ x.op,i_ x.a,i_ x.b,i_ x.c,i_ x.n]) (⟨W0,fun hy=>Nat.lt_irrefl _ (h.fr.lt _ hy)⟩);have P0:=q_ ((Pr.refl b (fun j=>j<38) w Y C).below A1);have HX:=q_ hx;have A9:=h.fr.blt (i:=0) rfl;obtain ⟨k,hk,A2⟩:∃ k:Nat,k<16/\x.a=(k:Int):=⟨x.a.toNat,by have:=hx.a;omega,by have:=hx.a;omega⟩;obtain ⟨op,xa,xb,xc,xn⟩:=x;have A2:xa=(k:Int):=A2;subst A2;have hop:op=5:=hop;subst hop;have v0:=W0.2.1 0 _ rfl;have v1:=W0.2.1 1 _ rfl;have Ab:(w:Nat)<V:=by omega
 have A5:b<V:=by omega
 clear h A1 A4 W0 hx;go_enter func127,ntmps127;go_upto_region 1 with fail;rw [←hV];clear hV;have Aa:(k:Int)<16:=by omega
 obtain ⟨rt,r0,_⟩:=H0.o.fr.tru (i:=0) rfl (j:=4+k*2) (ap_ k hk).1 (au_ _ o_);obtain ⟨rn,r1,_⟩:=H0.o.fr.num (i:=0) rfl (j:=4+k*2+1) (ap_ k hk).2.1 (au_ _ o_);go_cut [4] (fun p wx=>∃ q:Nat,p=.pointer (some (a_ q))/\V<=q/\Hid (Bx wx q [.bool rt,i_ rn])/\Hid (Below V V wx))
 case first =>
  exact cuF
 obtain ⟨q,rfl,hq,hB,A0⟩:=hcut;have H1:=q_ (H0.o.call A0.o);have I1:=q_ (I0.o.up (Up.of_below A0.o));have P1:=q_ (P0.o.below A0.o);have Q1:=h_ (Lc wc Y q [.bool rt,i_ rn]) (⟨hB.o,fun hy=>by have:=H0.o.fr.lt _ hy;omega⟩);have y0:=I1.o.cell (j:=0) rfl;have y1:=I1.o.cell (j:=1) rfl;have y2:=I1.o.cell (j:=2) rfl;have y3:=I1.o.cell (j:=3) rfl;have y4:=I1.o.cell (j:=4) rfl;have A8:b<wc:=lt_ A5 A0.o.size;clear v0 v1 r0 r1 hB;obtain ⟨kb,A3,A7⟩:∃ kb:Nat,kb<16/\xb=(kb:Int):=⟨xb.toNat,by have:=HX.o.b (show (5:Int)≠13 by decide) (show (5:Int)≠10 by decide);simp at this;omega,by have:=HX.o.b (show (5:Int)≠13 by decide) (show (5:Int)≠10 by decide);simp at this;omega⟩;subst A7;have A6:(kb:Int)<16:=by omega
 obtain ⟨st,s0,_⟩:=H1.o.fr.tru (i:=0) rfl (j:=4+kb*2) (ap_ kb A3).1 (au_ _ o_);obtain ⟨sn,s1,_⟩:=H1.o.fr.num (i:=0) rfl (j:=4+kb*2+1) (ap_ kb A3).2.1 (au_ _ o_);have B1:=h_ (Below wc wc wc.drew) (Below.drew (b_));go_upto_region 4 with fail;go_region_law (go_simp;go_at_call 178;refine (object_m wc.drew (H1.o.call B1.o) hK o_ ⟨st,sn⟩ xn).mono ?_;rintro e W2 ⟨⟨f,ok,rfl⟩,hM⟩;have HM:=q_ hM;clear hM s0 s1 y0 y1 y2 y3 y4);all_goals
  obtain ⟨Y2,C2,h2,p2⟩:=HM.o;have H2:=q_ h2;have I2:=q_ ((I1.o.up (Up.of_below B1.o)).up p2.1);have Q2:=q_ ((Q1.o.up (Up.of_below B1.o)).up p2.1);have P2:=q_ ((P1.o.below B1.o).trans p2 (fun j hj=>.inl hj));have y1:=I2.o.cell (j:=1) rfl;have y4:=I2.o.cell (j:=4) rfl;have q0:=Q2.o.cell (j:=0) rfl;have q1:=Q2.o.cell (j:=1) rfl;clear h2 p2 HM;cases ok
  case false =>
   go_wp2;refine end0 (by rfl) rfl ?_;exact ⟨rfl,P2.o.ms (H2.o.raise o_)⟩
  obtain ⟨ut,r0,_⟩:=H2.o.fr.tru (i:=0) rfl (j:=40+k*2) (ap_ k hk).2.2.1 (au_ _ o_);obtain ⟨un,r1,_⟩:=H2.o.fr.num (i:=0) rfl (j:=40+k*2+1) (ap_ k hk).2.2.2 (au_ _ o_);have fb:=H2.o.fr.fz (i:=0) rfl;have B2:=h_ (Below W2 W2 W2.drew) (Below.drew (b_));go_upto_region 6 with fail;go_region_law (go_simp;go_at_call 124;refine (dy_ W2.drew (H2.o.call B2.o) hK o_ f xn).mono ?_;rintro e W3 ⟨⟨v,rfl⟩,hM⟩;obtain ⟨Y3,C3,h3,p3⟩:=hM;have H3:=q_ h3;have P3:=q_ ((P2.o.below B2.o).trans p3 (fun j hj=>⟨o_,o_⟩));have I3:=q_ ((I2.o.up (Up.of_below B2.o)).up p3.1);clear h3 p3 r0 r1 fb q0 q1 y1 y4;have z1:=I3.o.cell (j:=1) rfl;obtain ⟨ut,r0,_⟩:=H3.o.fr.tru (i:=0) rfl (j:=40+k*2) (ap_ k hk).2.2.1 (au_ _ o_);obtain ⟨un,r1,_⟩:=H3.o.fr.num (i:=0) rfl (j:=40+k*2+1) (ap_ k hk).2.2.2 (au_ _ o_);have fb:=H3.o.fr.fz (i:=0) rfl);all_goals
   obtain ⟨Y4,C4,h5,p5⟩:=H3.o.setReg hk v;go_wp2;refine end0 (by rfl) rfl ?_;exact ⟨rfl,(P3.o.trans p5 (fun j hj=>.inl o_)).ms (h5.raise o_)⟩
end Go.Proofs.YtfolidlmgfhkiaaGreat
