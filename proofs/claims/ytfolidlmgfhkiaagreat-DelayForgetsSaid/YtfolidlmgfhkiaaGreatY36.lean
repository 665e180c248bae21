/- Lemmas on functions of the program, under the conditions that each states. -/
import Derived.Test.YtfolidlmgfhkiaaGreatY35
set_option linter.unusedVariables false
set_option linter.unusedSimpArgs false
set_option maxRecDepth 100000
set_option maxHeartbeats 8000000
namespace Go.Proofs.YtfolidlmgfhkiaaGreat.Dl
open Go.RowKit Go.Proofs.Tryz
theorem forgets_any (SA:OA) (sn sc:Nat) (sl:List Int) (thr:Int) (w:World) (hs:Sl w w 1 byteCells SA sn sl) (hsl:∀ (i:Nat) (x:Int),sl[i]?=some x->0<=x/\x<=255) (hnc:sn<=sc) (hsn:sn<=9223372036854775807) (hsc:sc<=9223372036854775807) (hth:-9223372036854775808<=thr/\thr<=9223372036854775807) :
  Calls prog 7 #[.slice SA sn sc,i_ thr] w fun e w'=>e=.returned (.bool true)/\Below w w w':=by
 have Bb:=q_ hs;have Am:=q_ hsl;have Bw:=q_ hth;clear hs hsl hth;go_enter func7,ntmps7;go_wp2_with fail;refine (sane_any w).mono ?_;rintro e w1 ⟨rfl,AW⟩;have Bc:=q_ (Bb.o.up AW);have Av:=q_ AW;clear AW Bb;go_wp2_with fail;refine (new_dice SA sn sc sl w1 Bc.o Am.o hnc hsn hsc).mono ?_;rintro e w2 ⟨d,rfl,hD,Bj,Bh⟩;have AG:=q_ (Av.o.trans (Bh.mono Av.o.size));have AH:=q_ hD;have Bp:w<=d:=Nat.le_trans Av.o.size Bj;have Ay:=q_ Bp;clear Bh hD Bj Bc Am Av;go_wp2_with fail;refine (made_any d w2 AH.o).mono ?_;rintro e w3 ⟨QA,qn,qc,ts,rfl,AC,Bl,Bn,Bm,BD,Br,Ar,Az⟩;have AO:Below w w w3:=AG.o.trans (Az.kp.below AG.o.size (fun q hq e=>by subst e;have:=Ay.o;omega));obtain ⟨b6,AY⟩:=ex_ (w3:Nat);obtain ⟨V,hV,AA,BB,AQ⟩:=ag_ w3 [.slice QA qn qc] 73;obtain rfl:qn=ts.length:=AC.len.symm;have BE:d<w2:=AH.o.lt;have BF:d<w3:=Az.dice.lt;rw [<-AY] at AQ;have HV:=q_ (show Dice V d/\Below w w V/\Bx V b6 [.slice QA ts.length qc]/\Sl V V 3 Pr.cells QA ts.length ts/\(∀ ad,QA=some ad->ad.block≠d/\ad.block<b6\/ts.length=0)/\d<b6 from
  ⟨Az.dice.below AA,AO.trans (AA.mono AO.size),AQ,AC.up AA,fun ad ha=>by
   by_cases h0:ts.length=0
   ·exact .inr h0
   obtain ⟨g,o,e,BH,_⟩:=AC.at_ o_
   have:=Ar ad ha
   rw [ha] at e;injection e with e;subst e
   have h2:g<w3:=BH
   exact .inl ⟨by show g≠d;have:w2<=g:=this;omega,by show g<b6;omega⟩,o_⟩)
 have HG:=q_ Bl;have HM:=q_ Bn;have B8:=q_ Bm;have HZ:=q_ Br;clear AC Bl Bn Bm BD Br Ar Az AO AQ AA BB BF AG AH BE;go_upto_region 5 with fail;rw [<-hV,<-AY];clear hV AY;go_wp2_with fail;refine (Made_m d (fun q=>q=d\/q=b6) V HV.o.1 (fun q hq=>by rcases hq with hq | hq;subst hq;exact HV.o.1.lt;subst hq;exact HV.o.2.2.1.1) (.inl rfl)).mono ?_;rintro e w5 ⟨⟨k,us,vs,A,n,c,nx,rfl,B6,Bq,AN,B5,AE,Bd⟩,hR⟩;obtain ⟨l,hl⟩:=tks_of AE.o;have AF:vs.length=cq_.length:=B6.o.lx;have H1:=h_ (∀ u ∈ vs,u.oneCell'=true) (scene_one B6.o Bq.o AN Bd);have IV:=h_ ((prog.info? 43).map (·.size)=some vs.length) (by rw [AF];exact isz_43);have BN:=q_ (Bx.new w5 zl7 43);have TH:=h_ ((w5.alloc (.cells zl7.toArray 43)).there w5 0 vs.length) (BN.o.there (by rw [AF];decide));obtain ⟨b7,AZ⟩:=ex_ (w5:Nat);obtain ⟨U,hU⟩:=ex_ ((w5.alloc (.cells zl7.toArray 43)).setCells w5 0 vs);have Ad:Below w5 w5 U:=by rw [hU];exact (ai_ w5 vs 0 (Kp.of_below (X:=fun _=>False) ((b_).alloc (l_) _)) (.inr (l_))).below (l_) (fun _ _ h=>h)
 have BU:=h_ (Bx U w5 vs) (by rw [hU];exact BN.o.all vs AF);have Be:b6<w5:=lt_ HV.o.2.2.1.1 hR.kp.size;have AI:=q_ (show Dn w d w5 b6 vs l A n c ts QA qc U from
  ⟨hR.dice.below Ad,Ay.o,HV.o.2.2.2.2.2,Be,BU.o,AN,AE.o.cap,B5,hl.up Ad,fun hn ad ha=>by
   obtain ⟨g,o,e2,_,hX,_⟩:=AE.o.at_ _ ha
   subst e2
   exact ⟨fun e=>hX (.inl e),fun e=>hX (.inr e)⟩,
    (HV.o.2.2.1.kp hR.kp (fun e=>by have e:b6=d:=e;have:=HV.o.2.2.2.2.2;omega)).below Ad,
    sl_kp HV.o.2.2.2.1 (hR.kp.az_ Ad) (fun hn ad ha e=>by rcases HV.o.2.2.2.2.1 ad ha with h | h;exact h.1 e;omega),
    (fun ad ha=>by
   rcases HV.o.2.2.2.2.1 ad ha with h | h
   ·exact ⟨h.1,o_⟩
   rw [(HZ.o h).1] at ha;cases ha),
   HG.o,B8.o,HV.o.2.1.trans (((hR.kp.az_ Ad)).below HV.o.2.1.size (fun q hq e=>by have e:q=d:=e;have:=Ay.o;omega))⟩)
 clear hR hl AE B6 Bq AN Bd AF Ad BU HV HG B8 HZ Be;go_upto_region 6 with (with_reducible refine ab_ rfl 43 (.tmp 7) (.tmp 21) rfl vs w_ v_ TH.o IV.o H1.o ?_);rw [<-hU,<-AZ];rw [<-AZ] at AI;clear hU AZ BN TH IV H1 Ay Bp;go_wp2_with fail;refine (mod_any thr 3 U d_ d_ Bw.o).mono ?_;rintro e w6 ⟨r,BO,-,rfl,Ap⟩;have Bt:=q_ (AI.o.below Ap);have BP:IntKind.i64.wrap (1+(r:Int))=1+(r:Int):=by rw [IntKind.wrap_i64];omega
 clear Ap AI;go_wp2_with fail;go_loopw [9] (fun i wr=>∃ (kk:Nat) (ts:List Pr) (QA:OA) (qc:Nat),kk<=8/\i=i_ kk/\Hid (Dn w d b7 b6 vs l A n c ts QA qc wr)/\Hid (Most ts (mb kk))) (fun i _=>8 - (intOf i).toNat)
 case atStart=>exact ⟨0,ts,QA,qc,o_,rfl,Bt,HM⟩
 obtain ⟨kk,ts,QA,qc,hk,rfl,A7,Bo⟩:=hrel;by_cases hk8:kk<8
 case neg =>
  have BG:¬(kk:Int)<8:=by omega
  obtain rfl:kk=8:=by omega
  have h0:ts=[]:=most_none A7.o.good Bo.o;subst h0;have q0:=A7.o.q.2.1 0 _ rfl;go_wp2_with fail;go_ret;exact ⟨rfl,A7.o.bel⟩
 case pos =>
 have BG:(kk:Int)<8:=by omega
 have q0:=A7.o.q.2.1 0 _ rfl;go_wp2_with fail;refine (decay_any QA ts.length qc ts wr A7.o.pr (by have:=A7.o.le;omega) A7.o.good.2).mono ?_;rintro e w7 ⟨A5,n5,c5,rfl,AD,AX,As⟩;obtain ⟨b8,B0⟩:=ex_ (w7:Nat);obtain ⟨ps,Au⟩:=ex_ (bo_ ts);obtain ⟨V8,Bf,Aa,AV,AP⟩:=ag_ w7 [.slice A5 n5 c5] 73;rw [<-B0] at AP;rw [<-Au] at AD;obtain rfl:n5=ps.length:=AD.len.symm;have AK:=q_ Au;have Ac:Below wr wr V8:=AX.trans (Aa.mono AX.size);have Ai:=q_ (A7.o.below Ac);have A3:=h_ (Bx V8 b8 [.slice A5 ps.length c5]/\Sl V8 V8 3 Pr.cells A5 ps.length ps/\(∀ ad,A5=some ad->wr<=ad.block)/\Good ps/\ps.length<=256) (⟨AP,AD.up Aa,As,by rw [Au];exact decay_good A7.o.good,by rw [Au];exact Nat.le_trans (decay_len _) A7.o.le⟩);have AL:=q_ Ac;clear AD AX As Aa AV AP Ac q0 Au;go_upto_region 11 with fail;rw [<-Bf,<-B0];clear Bf B0;have x15:=Ai.o.x.2.1 15 _ Ai.o.x15;go_upto_block 2 with fail;clear x15;go_cut [] (fun wx=>Hid (Below V8 V8 wx))
 case first =>
  go_wp2_with fail;go_loopw [34] (fun i wx=>∃ jj:Nat,jj<=n/\i=i_ jj/\Hid (Below V8 V8 wx)) (fun i _=>n - (intOf i).toNat)
  case atStart=>exact ⟨0,o_,rfl,q_ (b_)⟩
  rename World=>wx
  obtain ⟨jj,hj,rfl,A2⟩:=hrel;by_cases hjn:jj<n
  case neg =>
   have B4:¬(jj:Int)<(n:Int):=by omega
   go_wp2_with fail;go_meet;exact A2
  case pos =>
  have B4:(jj:Int)<(n:Int):=by omega
  have A9:=q_ (Ai.o.below A2.o);have B9:=h_ (Bx wx b8 [.slice A5 ps.length c5]/\Sl wx wx 3 Pr.cells A5 ps.length ps) (⟨A3.o.1.below A2.o,A3.o.2.1.up A2.o⟩);obtain ⟨g,o,t,rfl,ht,_⟩:=A9.o.start hjn;have HT:=q_ ht;have x15:=A9.o.x.2.1 15 _ A9.o.x15;have p0:=B9.o.1.2.1 0 _ rfl;have q0:=A9.o.q.2.1 0 _ rfl;clear ht;go_wp2_with fail;refine (fb_ A5 ps.length c5 ps (some (f_ g o)) n c l jj (1+(r:Int)) t wx B9.o.2 A3.o.2.2.2.1.1 (by have:=A3.o.2.2.2.2;omega) A9.o.tk (by have:=A9.o.n16;omega) A9.o.cap HT.o o_).mono ?_;rintro e BJ ⟨rfl,Ab⟩;have A6:=q_ (A2.o.trans (Ab.mono A2.o.size));have A1:=q_ (A9.o.below Ab);clear x15 p0 q0 Ab A2;rcases waits_is ps l jj (1+(r:Int)) t.start with hwt | ⟨j1,t1,hwt,-,-,-,-⟩
  ·rw [hwt];clear hwt;go_wp2_with fail;go_roundw
   case rel=>exact ⟨jj+1,o_,za_,A6⟩
   case measure=>exact me_
  have By:=h_ (co_ ts l jj (1+(r:Int)) t.start≠-1) (waits_mono (us:=ps) (fun x y=>by rw [AK.o];exact count_decay A9.o.good.1 (fun t ht=>by obtain ⟨i,hi⟩:=cr_.1 ht;exact (A9.o.good.2 i t hi).1) x y) (by rw [hwt];omega));rw [hwt];clear hwt;have BK:decide ((0:Int)<=(j1:Int))=true:=decide_eq_true o_;have x15:=A1.o.x.2.1 15 _ A1.o.x15;have q0:=A1.o.q.2.1 0 _ rfl;go_wp2_with fail;refine (fb_ QA ts.length qc ts (some (f_ g o)) n c l jj (1+(r:Int)) t BJ A1.o.pr A1.o.good.1 ww_ A1.o.tk (by have:=A1.o.n16;omega) A1.o.cap HT.o o_).mono ?_;rintro e Ae ⟨rfl,A0⟩;have Bs:=q_ (A6.o.trans (A0.mono A6.o.size));clear x15 q0 A0 A6 A1;rcases waits_is ts l jj (1+(r:Int)) t.start with hwt | ⟨j2,t2,hwt,-,-,-,-⟩
  ·exact absurd hwt By.o
  rw [hwt];clear hwt;have BL:decide ((j2:Int)<0)=false:=decide_eq_false o_;go_wp2_with fail;go_roundw
  case rel=>exact ⟨jj+1,o_,za_,Bs⟩
  case measure=>exact me_
 case rest =>
 rename World=>w9
 have Af:=q_ hcut.o;clear hcut;have Aj:=q_ (Ai.o.below Af.o);have Al:=h_ (Bx w9 b8 [.slice A5 ps.length c5]/\Sl w9 w9 3 Pr.cells A5 ps.length ps) (⟨A3.o.1.below Af.o,A3.o.2.1.up Af.o⟩);have Ba:=q_ (AL.o.trans (Af.o.mono AL.o.size));have p0:=Al.o.1.2.1 0 _ rfl;clear Ai AL Af;go_upto_block 4 with fail;clear p0;go_cut [] (fun wx=>Hid (Below w9 w9 wx))
 case first =>
  go_wp2_with fail;go_loopw [57] (fun i wx=>∃ jj:Nat,jj<=ps.length/\i=i_ jj/\Hid (Below w9 w9 wx)) (fun i _=>ps.length - (intOf i).toNat)
  case atStart=>exact ⟨0,o_,rfl,q_ (b_)⟩
  rename World=>wx
  obtain ⟨jj,hj,rfl,A2⟩:=hrel;by_cases hjn:jj<ps.length
  case neg =>
   have B4:¬(jj:Int)<(ps.length:Int):=by omega
   go_wp2_with fail;go_meet;exact A2
  case pos =>
  have B4:(jj:Int)<(ps.length:Int):=by omega
  obtain ⟨g,o,rfl,AB,Ao⟩:=Al.o.2.at_ o_;obtain ⟨y,hy⟩:∃ y,ps[jj]?=some y:=⟨_,ge_ hjn⟩;have c0:wx.cell? ⟨g,o+jj*3,none⟩=some (i_ y.a):=(belc A2.o AB).trans (Ao jj y hy 0 _ rfl);have c1:wx.cell? ⟨g,o+jj*3+1,none⟩=some (i_ y.b):=(belc A2.o AB).trans (Ao jj y hy 1 _ rfl);have c2:wx.cell? ⟨g,o+jj*3+2,none⟩=some (i_ y.cnt):=(belc A2.o AB).trans (Ao jj y hy 2 _ rfl);obtain ⟨Y,hY,Bg,BC,AR⟩:=ag_ wx [i_ y.a,i_ y.b,i_ y.cnt] 85;obtain ⟨b9,B1⟩:=ex_ (wx:Nat);rw [<-B1] at AR;have Bz:=q_ AR;have A6:=q_ (A2.o.trans (Bg.mono A2.o.size));have AM:=q_ hy;have B7:=q_ Ao
  clear Bg BC AR A2 hy Ao
  go_upto_region 20 with fail;rw [<-hY,<-B1];clear hY B1 c0 c1 c2;have AJ:=h_ (y.cnt=countP ts y.a y.b / 2/\1<=y.cnt) (decay_half Aj.o.good.1 (by rw [<-AK.o];exact cr_.2 ⟨jj,AM.o⟩));have Bi:0<=countP ts y.a y.b:=by have:=AJ.o;omega
  have B2:(countP ts y.a y.b).tdiv 2=y.cnt:=by rw [Int.tdiv_eq_ediv_of_nonneg Bi];exact AJ.o.1.symm
  have B3:IntKind.i64.wrap y.cnt=y.cnt:=by rw [IntKind.wrap_i64];have:=A3.o.2.2.2.1.2 jj y AM.o;omega
  have AS:decide (y.cnt<1)=false:=decide_eq_false (by have:=AJ.o;omega);have Aq:g<w9:=AB;have Aw:=h_ (∀ w',Below Y Y w'->w'.cell? (a_ b9)=some (i_ y.a)/\w'.cell? (f_ b9 1)=some (i_ y.b)/\w'.cell? (f_ b9 2)=some (i_ y.cnt)/\w'.cell? (a_ b6)=some (.slice QA ts.length qc)/\w'.cell? (a_ b8)=some (.slice (some (f_ g o)) ps.length c5)) (fun w' hb=>by
   have h1:=Bz.o.below hb
   have h2:=A6.o.trans (hb.mono A6.o.size)
   exact ⟨h1.2.1 0 _ rfl,h1.2.1 1 _ rfl,h1.2.1 2 _ rfl,(Aj.o.below h2).q.2.1 0 _ rfl,(Al.o.1.below h2).2.1 0 _ rfl⟩)
  have A1:=q_ (Aj.o.below (A6.o.trans ((Below.drew (Below.refl Y Y)).mono A6.o.size)));have An:=h_ (∀ wz,Below Y Y wz->Below w9 w9 wz) (fun wz hb=>A6.o.trans (hb.mono A6.o.size));clear Bi;rcases Nat.eq_zero_or_pos jj with hj0 | hj0
  ·subst hj0;refine am_ (S:=fun w':World=>w'.cell? (a_ b9)=some (i_ y.a)/\w'.cell? (f_ b9 1)=some (i_ y.b)/\w'.cell? (f_ b9 2)=some (i_ y.cnt)/\w'.cell? (a_ b6)=some (.slice QA ts.length qc)/\w'.cell? (a_ b8)=some (.slice (some (f_ g o)) ps.length c5)) rfl (Aw.o _ (Below.drew (b_))) (fun _=>?_);go_simp;refine aa_ 0 62 ?_;refine aa_ 1 63 ?_;refine aa_ 2 64 ?_;refine aa_ 3 65 ?_;refine aa_ 4 66 ?_;refine aa_ 5 67 ?_;refine aa_ 6 68 ?_;refine aw_ 7 k_ rfl (fun K hK=>?_);go_simp;go_at_call 30;refine (dz_ QA ts.length qc ts y.a y.b Y.drew A1.o.pr A1.o.good.1 ww_).mono ?_;rintro e Ae ⟨rfl,A0⟩;have Ah:=q_ (An.o _ ((Below.drew (b_)).trans A0));have Ak:=q_ (Aw.o Ae ((Below.drew (b_)).trans A0));clear A0;refine hK.out _ _ Ak.o (fun _=>?_);refine aa_ 8 70 ?_;try simp only [B2]
   try simp only [B3]
   refine aa_ 9 71 ?_;try simp only [bne_self_eq_false]
   refine aa_ 10 72 ?_;refine aa_ 11 73 ?_;refine aa_ 12 74 ?_;refine aa_ 13 75 ?_;try simp only [AS]
   refine aa_ 14 76 ?_;refine aa_ 15 77 ?_;refine aa_ 16 78 ?_;refine aa_ 17 79 ?_;refine aa_ 18 80 ?_;refine ae_ 19 81 ?_;refine ae_ 20 82 ?_;refine ae_ 21 83 ?_;refine ae_ 22 84 ?_;refine ae_ 23 85 ?_;refine ae_ 24 86 ?_;refine ae_ 25 87 ?_;refine ae_ 26 88 ?_;refine ae_ 27 89 ?_;refine ae_ 28 90 ?_;refine ae_ 29 91 ?_;refine ae_ 30 92 ?_;refine ae_ 31 93 ?_;refine ae_ 32 94 ?_;refine ae_ 33 95 ?_;refine ae_ 34 96 ?_;refine ae_ 35 97 ?_;refine ae_ 36 98 ?_;refine ae_ 37 99 ?_;refine ae_ 38 100 ?_;refine ae_ 39 101 ?_;refine ae_ 40 102 ?_;refine ae_ 41 103 ?_;refine ae_ 42 104 ?_;refine ae_ 43 105 ?_;refine ae_ 44 106 ?_;refine ae_ 45 107 ?_;refine ae_ 46 108 ?_;refine ae_ 47 109 ?_;refine ae_ 48 110 ?_;refine ae_ 49 111 ?_;refine ae_ 50 112 ?_;refine ae_ 51 113 ?_;refine ae_ 52 114 ?_;refine aa_ 53 115 ?_;refine aa_ 54 116 ?_;refine wpAnyH_done k_ ?_ _;go_wp2_with fail;go_roundw
   case rel=>exact ⟨1,o_,za_,Ah⟩
   case measure=>exact me_
  obtain ⟨j1,rfl⟩:∃ j1,jj=j1+1:=⟨jj - 1,o_⟩;obtain ⟨z,hz⟩:∃ z,ps[j1]?=some z:=⟨_,ge_ o_⟩;have A4:Bef z y.a y.b:=A3.o.2.2.2.1.1 j1 (j1+1) z y o_ hz AM.o;have Ax:=h_ (∀ w',Below Y Y w'->w'.cell? (a_ b9)=some (i_ y.a)/\w'.cell? (f_ b9 1)=some (i_ y.b)/\w'.cell? (f_ b9 2)=some (i_ y.cnt)/\w'.cell? (a_ b6)=some (.slice QA ts.length qc)/\w'.cell? (a_ b8)=some (.slice (some (f_ g o)) ps.length c5)/\w'.cell? ⟨g,o+j1*3,none⟩=some (i_ z.a)/\w'.cell? ⟨g,o+j1*3+1,none⟩=some (i_ z.b)) (fun w' hb=>by
   obtain ⟨s1,s2,s3,s4,s5⟩:=Aw.o w' hb
   exact ⟨s1,s2,s3,s4,s5,(belc (An.o _ hb) Aq).trans (B7.o j1 z hz 0 _ rfl),(belc (An.o _ hb) Aq).trans (B7.o j1 z hz 1 _ rfl)⟩)
  have A8:IntKind.i64.wrap (j1:Int)=(j1:Int):=by rw [IntKind.wrap_i64];have:=A3.o.2.2.2.2;omega
  have Bk:decide ((0:Int)<((j1+1:Nat):Int))=true:=decide_eq_true o_;have BM:(j1:Int)<(ps.length:Int):=by omega
  clear Aw hz;rcases A4 with A4 | ⟨A4,hbef2⟩
  ·have AT:decide (y.a<z.a)=false:=decide_eq_false o_;have AU:(z.a == y.a)=false:=by simpa using (by omega:¬z.a=y.a)
   clear A4;refine am_ (S:=fun w':World=>w'.cell? (a_ b9)=some (i_ y.a)/\w'.cell? (f_ b9 1)=some (i_ y.b)/\w'.cell? (f_ b9 2)=some (i_ y.cnt)/\w'.cell? (a_ b6)=some (.slice QA ts.length qc)/\w'.cell? (a_ b8)=some (.slice (some (f_ g o)) ps.length c5)/\w'.cell? ⟨g,o+j1*3,none⟩=some (i_ z.a)/\w'.cell? ⟨g,o+j1*3+1,none⟩=some (i_ z.b)) rfl (Ax.o _ (Below.drew (b_))) (fun _=>?_);go_simp;refine aa_ 0 62 ?_;refine aa_ 1 63 ?_;refine aa_ 2 64 ?_;refine aa_ 3 65 ?_;refine aa_ 4 66 ?_;refine aa_ 5 67 ?_;refine aa_ 6 68 ?_;refine aw_ 7 k_ rfl (fun K hK=>?_);go_simp;go_at_call 30;refine (dz_ QA ts.length qc ts y.a y.b Y.drew A1.o.pr A1.o.good.1 ww_).mono ?_;rintro e Ae ⟨rfl,A0⟩;have Ah:=q_ (An.o _ ((Below.drew (b_)).trans A0));have Ak:=q_ (Ax.o Ae ((Below.drew (b_)).trans A0));clear A0;refine hK.out _ _ Ak.o (fun _=>?_);refine aa_ 8 70 ?_;try simp only [B2]
   try simp only [B3]
   refine aa_ 9 71 ?_;try simp only [bne_self_eq_false]
   refine aa_ 10 72 ?_;refine aa_ 11 73 ?_;refine aa_ 12 74 ?_;refine aa_ 13 75 ?_;try simp only [AS]
   refine aa_ 14 76 ?_;refine aa_ 15 77 ?_;refine aa_ 16 78 ?_;refine aa_ 17 79 ?_;try simp only [Bk]
   refine aa_ 18 80 ?_;refine aa_ 19 81 ?_;refine aa_ 20 82 ?_;refine aa_ 21 83 ?_;refine aa_ 22 84 ?_;try simp only [A8]
   refine aa_ 23 85 ?_;refine aa_ 24 86 ?_;refine aa_ 25 87 ?_;refine aa_ 26 88 ?_;refine aa_ 27 89 ?_;refine aa_ 28 90 ?_;try simp only [AT]
   refine aa_ 29 91 ?_;refine aa_ 30 92 ?_;refine aa_ 31 93 ?_;refine aa_ 32 94 ?_;refine aa_ 33 95 ?_;try simp only [A8]
   refine aa_ 34 96 ?_;refine aa_ 35 97 ?_;refine aa_ 36 98 ?_;refine aa_ 37 99 ?_;refine aa_ 38 100 ?_;refine aa_ 39 101 ?_;try simp only [AU]
   refine aa_ 40 102 ?_;refine ae_ 41 103 ?_;refine ae_ 42 104 ?_;refine ae_ 43 105 ?_;refine ae_ 44 106 ?_;refine ae_ 45 107 ?_;refine ae_ 46 108 ?_;refine ae_ 47 109 ?_;refine ae_ 48 110 ?_;refine ae_ 49 111 ?_;refine ae_ 50 112 ?_;refine aa_ 51 113 ?_;refine aa_ 52 114 ?_;refine aa_ 53 115 ?_;refine aa_ 54 116 ?_;refine wpAnyH_done k_ ?_ _;have BI:=A3.o.2.2.2.2;go_wp2_with fail;go_roundw
   case rel=>exact ⟨j1+1+1,o_,za_,Ah⟩
   case measure=>exact me_
  have AT:decide (y.a<z.a)=false:=decide_eq_false o_;have AU:(z.a == y.a)=true:=by simpa using A4
  have BA:decide (y.b<=z.b)=false:=decide_eq_false o_;clear A4 hbef2;refine am_ (S:=fun w':World=>w'.cell? (a_ b9)=some (i_ y.a)/\w'.cell? (f_ b9 1)=some (i_ y.b)/\w'.cell? (f_ b9 2)=some (i_ y.cnt)/\w'.cell? (a_ b6)=some (.slice QA ts.length qc)/\w'.cell? (a_ b8)=some (.slice (some (f_ g o)) ps.length c5)/\w'.cell? ⟨g,o+j1*3,none⟩=some (i_ z.a)/\w'.cell? ⟨g,o+j1*3+1,none⟩=some (i_ z.b)) rfl (Ax.o _ (Below.drew (b_))) (fun _=>?_);go_simp;refine aa_ 0 62 ?_;refine aa_ 1 63 ?_;refine aa_ 2 64 ?_;refine aa_ 3 65 ?_;refine aa_ 4 66 ?_;refine aa_ 5 67 ?_;refine aa_ 6 68 ?_;refine aw_ 7 k_ rfl (fun K hK=>?_);go_simp;go_at_call 30;refine (dz_ QA ts.length qc ts y.a y.b Y.drew A1.o.pr A1.o.good.1 ww_).mono ?_;rintro e Ae ⟨rfl,A0⟩;have Ah:=q_ (An.o _ ((Below.drew (b_)).trans A0));have Ak:=q_ (Ax.o Ae ((Below.drew (b_)).trans A0));clear A0;refine hK.out _ _ Ak.o (fun _=>?_);refine aa_ 8 70 ?_;try simp only [B2]
  try simp only [B3]
  refine aa_ 9 71 ?_;try simp only [bne_self_eq_false]
  refine aa_ 10 72 ?_;refine aa_ 11 73 ?_;refine aa_ 12 74 ?_;refine aa_ 13 75 ?_;try simp only [AS]
  refine aa_ 14 76 ?_;refine aa_ 15 77 ?_;refine aa_ 16 78 ?_;refine aa_ 17 79 ?_;try simp only [Bk]
  refine aa_ 18 80 ?_;refine aa_ 19 81 ?_;refine aa_ 20 82 ?_;refine aa_ 21 83 ?_;refine aa_ 22 84 ?_;try simp only [A8]
  refine aa_ 23 85 ?_;refine aa_ 24 86 ?_;refine aa_ 25 87 ?_;refine aa_ 26 88 ?_;refine aa_ 27 89 ?_;refine aa_ 28 90 ?_;try simp only [AT]
  refine aa_ 29 91 ?_;refine aa_ 30 92 ?_;refine aa_ 31 93 ?_;refine aa_ 32 94 ?_;refine aa_ 33 95 ?_;try simp only [A8]
  refine aa_ 34 96 ?_;refine aa_ 35 97 ?_;refine aa_ 36 98 ?_;refine aa_ 37 99 ?_;refine aa_ 38 100 ?_;refine aa_ 39 101 ?_;try simp only [AU]
  refine aa_ 40 102 ?_;refine aa_ 41 103 ?_;refine aa_ 42 104 ?_;refine aa_ 43 105 ?_;refine aa_ 44 106 ?_;try simp only [A8]
  refine aa_ 45 107 ?_;refine aa_ 46 108 ?_;refine aa_ 47 109 ?_;refine aa_ 48 110 ?_;refine aa_ 49 111 ?_;refine aa_ 50 112 ?_;try simp only [BA]
  refine aa_ 51 113 ?_;refine aa_ 52 114 ?_;refine aa_ 53 115 ?_;refine aa_ 54 116 ?_;refine wpAnyH_done k_ ?_ _;have BI:=A3.o.2.2.2.2;go_wp2_with fail;go_roundw
  case rel=>exact ⟨j1+1+1,o_,za_,Ah⟩
  case measure=>exact me_
 case rest =>
 rename World=>w10
 have Ag:=q_ hcut.o;clear hcut;have Bu:=q_ (A7.o.put (w1:=w10) (c':=c5) (Ba.o.trans (Ag.o.mono Ba.o.size)) (Al.o.2.up Ag.o) (fun ad ha=>.inl (A3.o.2.2.1 ad ha)) A3.o.2.2.2.1 A3.o.2.2.2.2);have Bv:=h_ (Most ps (mb (kk+1))) (by rw [AK.o];exact most_decay Bo.o (mb_next hk8));have p0:=(Al.o.1.below Ag.o).2.1 0 _ rfl;have q0:=(Aj.o.below Ag.o).q.2.1 0 _ rfl;have BQ:=(Aj.o.below Ag.o).q.2.2;go_wp2_with fail;go_roundw
 case rel=>exact ⟨kk+1,_,_,_,o_,za_,Bu,Bv⟩
 case measure=>exact me_
end Go.Proofs.YtfolidlmgfhkiaaGreat.Dl
