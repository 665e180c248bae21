/- Lemmas on functions of the program, under the conditions that each states. -/
import Derived.Test.YtfolidlmgfhkiaaGreatU45
set_option linter.unusedVariables false
set_option linter.unusedSimpArgs false
set_option maxRecDepth 100000
set_option maxHeartbeats 60000000
namespace Go.Proofs.YtfolidlmgfhkiaaGreat.Pr
open Go.RowKit Go.Proofs.Tryz
theorem law_any (SA:OA) (sn sc:Nat) (sl:List Int) (start fr nn:Int) (st:Bool) (RA:OA) (rn rc:Nat) (rcs:List Cl) (w:World) (hs:Sl w w 1 byteCells SA sn sl) (hsl:∀ (i:Nat) (x:Int),sl[i]?=some x->0<=x/\x<=255) (hnc:sn<=sc) (hsn:sn<=9223372036854775807) (hsc:sc<=9223372036854775807)
  (hst:-32768<=start/\start<=32767) (hnn:-128<=nn/\nn<=127) (hr:Sl w w 4 Cl.cells RA rn rcs) :
  Calls prog 4 #[.slice SA sn sc,.int .i16 start,i_ fr,.int .i8 nn,.bool st,.slice RA rn rc] w fun e w'=>e=.returned (.bool true)/\Below w w w':=by
 have BK:=q_ hs;have AJ:=q_ hsl;have BG:=q_ hr;have BM:=q_ hst;have BE:=q_ hnn;clear hs hsl hr hst hnn;go_enter func4,ntmps4;go_wp2_with fail;refine (sane_any w).mono ?_;rintro e w1 ⟨rfl,Ar⟩;have Al:=q_ (BK.o.up Ar);have Ag:=q_ Ar;clear Ar BK;by_cases h40:40<rn
 ·have Bg:(40:Int)<(rn:Int):=by omega
  go_wp2_with fail;go_ret;exact ⟨rfl,Ag.o⟩
 have Bg:¬(40:Int)<(rn:Int):=by omega
 go_wp2_with fail;refine (made_dice SA sn sc sl w1 Al.o AJ.o hnc hsn hsc).mono ?_;rintro e w2 ⟨d,rfl,hD,C4,AO⟩;have B4:=q_ (Ag.o.trans (AO.mono Ag.o.size));have B9:=q_ hD;have Ck:w<=d:=Nat.le_trans Ag.o.size C4;have BO:=q_ Ck;clear AO hD C4 Al AJ Ag;go_wp2_with fail;refine (Made_m d (fun q=>q=d) w2 B9.o (fun q hq=>by subst hq;exact B9.o.lt) rfl).mono ?_;rintro e w3 ⟨⟨k,us,vs,A,n,c,nx,rfl,B0,Bq,Bf,CJ,Ci,BV⟩,hR⟩;have B5:=h_ (Below w w w3) (B4.o.trans (hR.kp.below B4.o.size (fun q hq e=>by subst e;have:=BO.o;omega)));obtain ⟨l,hl,Ce⟩:=tqs_of Ci.o d_;obtain ⟨HA,hn,hc,Cj,Bn⟩:=Bq.o.us.slc (j:=0) (e:=objT) rfl;obtain ⟨ol,AS,_⟩:=Bn.hp d_;have BF:=q_ AS;have Cu:=h_ (hn<=9000000000000) (Nat.le_trans Bn.le d_);have BP:=q_ (B0.o.cu 0 _ Cj);have AL:=q_ Bf;have HL:=q_ hl;have Ba:=q_ Ce;have AZ:vs.length=cu_.length:=B0.o.lx;have H1:=h_ (∀ u ∈ vs,u.oneCell'=true) (scene_one B0.o Bq.o Bf BV);have IV:=h_ ((prog.info? 43).map (·.size)=some vs.length) (by rw [AZ];exact isz_43);have BN:=q_ (Bx.new w3 zl7 43);have TH:=h_ ((w3.alloc (.cells zl7.toArray 43)).there w3 0 vs.length) (BN.o.there (by rw [AZ];decide));obtain ⟨BR,As⟩:=ex_ (w3:Nat);obtain ⟨U,hU⟩:=ex_ ((w3.alloc (.cells zl7.toArray 43)).setCells w3 0 vs);have AC:Below w3 w3 U:=by rw [hU];exact (ah_ w3 vs 0 (Kp.of_below (X:=fun _=>False) ((b_).alloc (l_) _)) (.inr (l_))).below (l_) (fun _ _ h=>h)
 have BU:=h_ (Bx U w3.heap.size vs) (by rw [hU];exact BN.o.all vs AZ);have AE:=q_ AC;have AK:=q_ (B5.o.trans (AC.mono B5.o.size));clear hR hl Ci B0 Bq Bf BV AZ AC Cj Bn AS Ce B9 B4 BO Ck;go_upto_region 6 with (with_reducible refine ab_ rfl 43 (.tmp 13) (.tmp 29) rfl vs w_ v_ TH.o IV.o H1.o ?_);rw [<-hU,<-As];rw [<-As] at BU;clear hU As BN TH IV H1;have x5:=BU.o.2.1 5 _ BP.o;go_wp2_with fail;refine (refread_any HA hn hc ol 1 0 U (BF.o.up AE.o) Cu.o).mono ?_;rintro e w4 ⟨rfl,AB⟩;obtain ⟨fb,C5⟩:=ex_ ((readD 1 0 (ol.map Ob.po)).ref);obtain ⟨fn,C8⟩:=ex_ ((readD 1 0 (ol.map Ob.po)).n);obtain ⟨fk,C6⟩:=ex_ (readB 1 0 (ol.map Ob.po));rw [<-C5,<-C8,<-C6];clear C5 C8 C6 x5;obtain ⟨V,hV,BZ,CD,Bj,AX⟩:=cn_ w4 [.bool fb,i_ fn] 38 [.slice none 0 0] 59;obtain ⟨Ad,Au⟩:=ex_ w4.heap.size;obtain ⟨A4,Av⟩:=ex_ (w4.heap.size+1);have AN:Below U.heap.size U V:=AB.trans (BZ.mono AB.size);have AW:=q_ (AK.o.trans (AN.mono AK.o.size));have AH:=q_ ((HL.o.up AE.o).up AN);have BI:=h_ (∀ t ∈ l,Rdq V t) (fun t ht=>((Ba.o t ht).1.up AE.o).up AN);have Bz:=q_ (BU.o.below AN);rw [<-Au] at Bj;rw [<-Av] at AX;have CE:Ad<A4:=by omega
 have Bp:w<=A4:=by have:=AK.o.size;have:=AB.size;omega
 have AV:=h_ (Bx V Ad [.bool fb,i_ fn]/\Bx V A4 [.slice none 0 0]/\A4<V) (⟨Bj,AX,AX.1⟩);have BJ:=h_ (∀ t ∈ l,0<t.rn->∀ ad,t.RA=some ad->ad.block≠A4) (fun t ht h0 ad ha=>by
  have h1:=((Ba.o t ht).1.up AE.o).lt h0 ad ha
  have h2:=AB.size
  omega)
 have Bb:=h_ (Sl V V 4 Cl.cells RA rn rcs/\(0<rn->∀ ad,RA=some ad->ad.block≠A4)) (⟨BG.o.up AW.o,fun h0 ad ha=>by
  obtain ⟨ab,ao,e,CI,_⟩:=BG.o.at_ h0
  rw [ha] at e;injection e with e;subst e
  have h2:=AK.o.size
  have h3:=AB.size
  have h4:ab<w:=CI
  show ab≠A4
  omega⟩)
 clear AB BZ CD Bj AX AN;go_upto_region 8 with fail;rw [<-hV];rw [show w4+1=A4 from Av.symm,<-Au];clear hV Au Av;obtain ⟨A0,Ca,Cc,C9,Cb⟩:∃ t:Tq,t.cells=[i_ start,i_ 0,.bool false,i_ 0,.bool false,i_ 0,.bool false,i_ 0,.bool false,i_ 0,.bool false,i_ 0,.bool false,i_ 0,.bool false,i_ 0,.bool false,i_ 0,.bool false,i_ 0,.bool false,i_ 0,.bool false,i_ 0,.bool false,i_ 0,.bool false,i_ 0,.bool false,i_ 0,.bool false,i_ 0,.bool false,i_ 0,.bool false,i_ 0,.slice none 0 0,.slice RA rn rc,.slice none 0 0,.slice none 0 0,.slice none 0 0,.slice none 0 0,i_ 0,i_ 0,.bool false,.bool false,i_ 0,i_ 0]/\t.s=start/\t.RA=RA/\t.rn=rn:=⟨⟨start,RA,rn,rc,[i_ start,i_ 0,.bool false,i_ 0,.bool false,i_ 0,.bool false,i_ 0,.bool false,i_ 0,.bool false,i_ 0,.bool false,i_ 0,.bool false,i_ 0,.bool false,i_ 0,.bool false,i_ 0,.bool false,i_ 0,.bool false,i_ 0,.bool false,i_ 0,.bool false,i_ 0,.bool false,i_ 0,.bool false,i_ 0,.bool false,i_ 0,.bool false,i_ 0,.slice none 0 0,.slice RA rn rc,.slice none 0 0,.slice none 0 0,.slice none 0 0,.slice none 0 0,i_ 0,i_ 0,.bool false,.bool false,i_ 0,i_ 0],rfl,rfl,rfl,rfl⟩,rfl,rfl,rfl,rfl⟩;have Az:=h_ (A0.cells=[i_ start,i_ 0,.bool false,i_ 0,.bool false,i_ 0,.bool false,i_ 0,.bool false,i_ 0,.bool false,i_ 0,.bool false,i_ 0,.bool false,i_ 0,.bool false,i_ 0,.bool false,i_ 0,.bool false,i_ 0,.bool false,i_ 0,.bool false,i_ 0,.bool false,i_ 0,.bool false,i_ 0,.bool false,i_ 0,.bool false,i_ 0,.bool false,i_ 0,.slice none 0 0,.slice RA rn rc,.slice none 0 0,.slice none 0 0,.slice none 0 0,.slice none 0 0,i_ 0,i_ 0,.bool false,.bool false,i_ 0,i_ 0]/\A0.s=start/\A0.RA=RA/\A0.rn=rn) (⟨Ca,Cc,C9,Cb⟩);clear Ca Cc C9 Cb;have x15:=Bz.o.2.1 15 _ AL.o;obtain ⟨i0,hi,Br,Bs,Bt⟩:=info_parts infoTask;have CQ:wrap64 start=start:=by have:=BM.o;unfold wrap64;omega
 have C7:(l.flatMap Tq.cells).length=n*48:=by rw [ds_ Tq.size,AH.o.len]
 have Cd:∀ u ∈ l.flatMap Tq.cells,u.oneCell'=true:=fun u hu=>by
  obtain ⟨t,_,h⟩:=List.mem_flatMap.1 hu;exact List.all_eq_true.1 t.one u h
 have AS:∀ u ∈ A0.cells,u.oneCell'=true:=fun u hu=>List.all_eq_true.1 A0.one u hu
 have Ct:=h_ (∀ w5:World,∀ ad,(some (a_ w5):OA)=some ad->∀ (j:Nat) (u:Value),A0.cells[j]?=some u->(w5.alloc (.cells #[i_ start,i_ 0,.bool false,i_ 0,.bool false,i_ 0,.bool false,i_ 0,.bool false,i_ 0,.bool false,i_ 0,.bool false,i_ 0,.bool false,i_ 0,.bool false,i_ 0,.bool false,i_ 0,.bool false,i_ 0,.bool false,i_ 0,.bool false,i_ 0,.bool false,i_ 0,.bool false,i_ 0,.bool false,i_ 0,.bool false,i_ 0,.bool false,i_ 0,.slice none 0 0,.slice RA rn rc,.slice none 0 0,.slice none 0 0,.slice none 0 0,.slice none 0 0,i_ 0,i_ 0,.bool false,.bool false,i_ 0,i_ 0] 65)).cell? (ad.add j)=some u) (fun w5 ad h j u hu=>by
  injection h with h
  subst h
  rw [Az.o.1] at hu
  rw [Addr.add_lit,Nat.zero_add]
  show (w5.alloc _).cell? _=_
  rw [ay_ _ _ _ _ _ rfl]
  exact List.getElem?_toArray.trans hu)
 go_upto_block 0 with (at_builtin;first
  | (refine av_ rfl _ _ 41 rfl V 65 i0 _ 48 480 underlying41 hi Br Bs Bt rfl d_ (.slice none 0 0) 0 [] rfl (World.ownsRow_nil _ _ _ _) A n c (l.flatMap Tq.cells) rfl (AH.o.src Tq.size).1 C7 (AH.o.src Tq.size).2 Cd m_ o_ (l_) ?_;intro T1 c1 w5 Aa AP _;have AG:=h_ (Below V V w5) ((Below.refl _ V).grown AP (l_) (fun k hk=>by cases hk));rw [Nat.zero_add,List.nil_append] at Aa;try rw [Nat.zero_add])
  | (refine av_ rfl _ _ 41 rfl V 65 i0 _ 48 480 underlying41 hi Br Bs Bt rfl d_ (.slice T1 n c1) n (l.flatMap Tq.cells) rfl (Aa.alloc _) (some (a_ w5)) 1 1 A0.cells rfl yq_ (by rw [A0.size]) (Ct.o w5) AS m_ o_ (by simp;have:=AG.o.size;omega) ?_;intro T2 c2 w6 An AQ _))
 have AA:Below V V w6:=(AG.o.alloc AG.o.size _).grown AQ (by simp;have:=AG.o.size;omega) (fun k hk=>(Aa.lt k hk).1);have Ab:w6.ownsRow V 65 48 (.slice T2 (n+1) c2) (n+1) ((l ++ [A0]).flatMap Tq.cells):=by rw [List.flatMap_append];simpa using An
 have BW:=own_lo Ab (l_);obtain ⟨g2,CF⟩:∃ g2,T2=some (a_ g2):=by
  rcases Ab.2 with ⟨_,h⟩ | ⟨g,cap,cur,h,_⟩
  ·omega
  injection h with h;exact ⟨g,h⟩
 subst CF;have BB:=q_ (show Gq w Ad A4 fb fn (some (a_ g2)) (n+1) (l ++ [A0]) [] none 0 0 w6 from
  ⟨Bp,o_,AV.o.1.below AA,Sl.cs_ Tq.size (by simp [AH.o.len]) Ab,fun ad ha=>by have h1:=BW ad ha;have h2:=AV.o.2.2;omega,fun t ht=>by
   rcases List.mem_append.1 ht with h | h
   ·exact ⟨(BI.o t h).up AA,BJ.o t h⟩
   obtain rfl:=List.mem_singleton.1 h
   refine ⟨⟨rcs,?_,?_⟩,?_⟩
   ·rw [Az.o.2.2.1,Az.o.2.2.2];exact Bb.o.1.up AA
   ·rw [Az.o.2.2.2];omega
   ·rw [Az.o.2.2.1,Az.o.2.2.2];exact Bb.o.2,
   AV.o.2.1.below AA,Sl.nil,(fun ad h=>by cases h),good_nil,small_nil,AW.o.trans (AA.mono AW.o.size)⟩)
 clear AA Aa An Ab AP AQ BW AG x15 C7 Cd AS hi Br Bs Bt AL BP AV BJ Bb BI AH Bz AW AK AE B5 Ba HL BF;go_cut [] (fun wx=>∃ (ts:List Trk) (QA:OA) (qn qc:Nat),Hid (Gq w Ad A4 fb fn (some (a_ g2)) (n+1) (l ++ [A0]) ts QA qn qc wx))
 case first =>
  go_wp2_with fail;go_loopw [47] (fun i wr=>∃ (kk:Nat) (ts:List Trk) (QA:OA) (qn qc:Nat),kk<=n+1/\i=i_ kk/\Hid (Gq w Ad A4 fb fn (some (a_ g2)) (n+1) (l ++ [A0]) ts QA qn qc wr)) (fun i _=>n+1 - (intOf i).toNat)
  case atStart=>exact ⟨0,[],none,0,0,o_,rfl,BB⟩
  obtain ⟨kk,ts,QA,qn,qc,hk,rfl,A5⟩:=hrel;by_cases hkn:kk<n+1
  case neg =>
   have CH:¬(kk:Int)<((n:Int)+1):=by omega
   go_wp2_with fail;go_meet;exact ⟨ts,QA,qn,qc,A5⟩
  case pos =>
  have CH:(kk:Int)<((n:Int)+1):=by omega
  obtain ⟨g,o,Bk,CO,C0⟩:=A5.o.tl.at_ o_;obtain ⟨t,ht⟩:∃ t,(l ++ [A0])[kk]?=some t:=⟨_,ge_ (by rw [A5.o.tl.len];exact hkn)⟩;injection Bk with Bk;injection Bk with e1 e2;subst e1 e2;have BH:=h_ (wr.rangeAt g2 (kk*48) t.cells) (fun j v hv=>by have h:=C0 kk t ht j v hv;rwa [Nat.zero_add] at h);have AU:=h_ ((prog.info? 65).map (·.size)=some t.cells.length) (by rw [t.size];exact au_);have Cy:=q_ ht;have AI:=h_ (∀ u ∈ t.cells,u.oneCell'=true) (fun u hu=>List.all_eq_true.1 t.one u hu);have BN:=q_ (Bx.new wr zl1 65);have TH:=h_ ((wr.alloc (.cells zl1.toArray 65)).there wr 0 t.cells.length) (BN.o.there (by rw [t.size];decide));obtain ⟨Am,Ak⟩:=ex_ (wr:Nat);obtain ⟨U,hU⟩:=ex_ ((wr.alloc (.cells zl1.toArray 65)).setCells wr 0 t.cells);have AC:Below wr wr U:=by rw [hU];exact (ah_ wr t.cells 0 (Kp.of_below (X:=fun _=>False) ((b_).alloc (l_) _)) (.inr (l_))).below (l_) (fun _ _ h=>h)
  have BT:=h_ (Bx U wr t.cells) (by rw [hU];exact BN.o.all t.cells (by rw [t.size];rfl));have AF:=q_ (A5.o.below AC);have C2:=A5.o.q.1;clear C0 ht AC A5;go_upto_region 11 with (first | (with_reducible refine ac_ rfl 65 (.tmp 49) rfl _ underlying65 rfl v_ BH.o AU.o ?_) | (with_reducible refine ab_ rfl 65 (.tmp 18) (.tmp 50) rfl t.cells w_ v_ TH.o AU.o AI.o ?_));rw [<-hU,<-Ak];have CB:A4<Am:=by rw [Ak];have h:=AF.o.q.1;have h2:=C2;omega
  rw [<-Ak] at BT;clear hU Ak BN TH AI C2;obtain ⟨V1,BX,Ap,Bl,Bh⟩:=af_ U [i_ fn,i_ fr,i_ fn] 2;obtain ⟨c1,AY⟩:=ex_ (U:Nat);rw [<-AY] at Bh;have CC:A4<c1:=by rw [AY];exact AF.o.q.1
  have BC:=q_ (AF.o.below Ap);have By:=q_ (BT.o.below Ap);have Ag:=q_ Bh;have BD:=h_ (∀ jj,jj<3->∃ x:Int,∀ w',Kp (fun q=>q=A4) V1 w'->w'.cell? (f_ c1 jj)=some (i_ x)) (fun jj hj=>by
   have hne:¬(fun q=>q=A4) c1:=fun e=>by have e:c1=A4:=e;omega
   have h:jj=0\/jj=1\/jj=2:=by omega
   rcases h with rfl | rfl | rfl
   ·exact ⟨_,fun w' hb=>(Ag.o.kp hb hne).2.1 0 _ rfl⟩
   ·exact ⟨_,fun w' hb=>(Ag.o.kp hb hne).2.1 1 _ rfl⟩
   exact ⟨_,fun w' hb=>(Ag.o.kp hb hne).2.1 2 _ rfl⟩)
  have y1:=AF.o.f.2.1 1 _ rfl;clear Ap Bl Bh;go_upto_block 2 with fail;rw [<-BX,<-AY];clear BX AY y1 AF BT BH;go_cut [] (fun wx=>∃ (ts:List Trk) (QA:OA) (qn qc:Nat),Hid (Gq w Ad A4 fb fn (some (a_ g2)) (n+1) (l ++ [A0]) ts QA qn qc wx)/\Hid (Bx wx Am t.cells))
  case first =>
   go_wp2_with fail;go_loopw [58] (fun i wx=>∃ (jj:Nat) (ts:List Trk) (QA:OA) (qn qc:Nat),jj<=3/\i=i_ jj/\Hid (Gq w Ad A4 fb fn (some (a_ g2)) (n+1) (l ++ [A0]) ts QA qn qc wx)/\Hid (Kp (fun q=>q=A4) V1 wx)) (fun i _=>3 - (intOf i).toNat)
   case atStart=>exact ⟨0,ts,QA,qn,qc,o_,rfl,BC,q_ (Kp.refl _ _)⟩
   rename World=>wx
   obtain ⟨jj,ts,QA,qn,qc,hj,rfl,A5,Bo⟩:=hrel;have B6:=q_ (By.o.kp Bo.o (fun e=>by have e:Am=A4:=e;omega));by_cases hj3:jj<3
   case neg =>
    have CG:¬(jj:Int)<3:=by omega
    go_wp2_with fail;go_meet;exact ⟨ts,QA,qn,qc,A5,B6⟩
   case pos =>
   have CG:(jj:Int)<3:=by omega
   obtain ⟨x,hx⟩:=BD.o jj hj3;have c0:=hx wx Bo.o;have q0:=A5.o.q.2.1 0 _ rfl;obtain ⟨⟨cs,C3,Cf⟩,CP⟩:=A5.o.rd t (List.mem_of_getElem? Cy.o);have BA:=q_ C3;have Cx:=h_ (wx.rangeAt Am 0 t.cells) B6.o.whole;clear hx C3;go_wp2_with (with_reducible refine ac_ rfl 65 (.tmp 18) rfl _ underlying65 rfl v_ Cx.o AU.o ?_);refine (learn_any QA qn qc ts t.cells t.s x t.RA t.rn t.rc cs wx A5.o.pr A5.o.good A5.o.small t.c0 t.c37 BA.o Cf).mono ?_;rintro e z1 ⟨A1,n1,k1,rfl,Cg,Ar,AR⟩;obtain ⟨V2,BY,Aq,Bm,Bi⟩:=af_ z1 [.slice A1 n1 k1] 59;obtain ⟨BS,Aw⟩:=ex_ (z1:Nat);rw [<-Aw] at Bi;have Ah:=h_ (Below wx wx V2) (Ar.trans (Aq.mono Ar.size));have Cv:=q_ Bi;have Ae:=q_ (Cg.up Aq);have Cs:=q_ AR;clear c0 q0 Cg Ar AR Aq Bm Bi;go_upto_region 15 with fail;rw [<-BY,<-Aw];clear BY Aw;have A6:=h_ (∀ wz,Below V2 V2 wz->Gq w Ad A4 fb fn (some (a_ g2)) (n+1) (l ++ [A0]) ts QA qn qc wz) (fun wz hb=>A5.o.below (Ah.o.trans (hb.mono Ah.o.size)));have A8:=h_ (Below V2 V2 V2.drew) (Below.drew (b_));have A7:=h_ (∀ w',Below V2 V2 w'->w'.cell? (a_ BS)=some (.slice A1 n1 k1)/\w'.cell? (a_ A4)=some (.slice QA qn qc)) (fun w' hb=>⟨(Cv.o.below hb).2.1 0 _ rfl,(A6.o w' hb).q.2.1 0 _ rfl⟩);have Cw:=h_ (V2.drew.rangeAt Am 0 t.cells) ((B6.o.below (Ah.o.trans (A8.o.mono Ah.o.size))).whole);refine aq_ (S:=fun w':World=>w'.cell? (a_ BS)=some (.slice A1 n1 k1)/\w'.cell? (a_ A4)=some (.slice QA qn qc)) rfl (A7.o _ A8.o) (fun _=>?_);go_simp;refine aa_ 0 66 ?_;refine aa_ 1 67 ?_;refine aa_ 3 69 ?_;refine bf_ 2 k_ rfl (fun K hK=>?_);rw [if_pos zd_];refine wp_load_mid 65 (.tmp 18) rfl Am 0 v_ t.cells _ Cw.o underlying65 rfl AU.o ?_;refine hK.out _ _ (A7.o _ A8.o) (fun _=>?_);refine az_ 4 fun K hK=>?_
   go_simp;go_at_call 20;refine (reflearn_any QA qn qc ts t.cells t.s x t.RA t.rn t.rc cs V2.drew (A6.o _ A8.o).pr A5.o.good A5.o.small t.c0 t.c37 (BA.o.up (Ah.o.trans (A8.o.mono Ah.o.size))) Cf).mono ?_;rintro e z2 ⟨A2,n2,k2,rfl,Ch,AO,-⟩;have Ac:=q_ (A8.o.trans AO);have Bc:=q_ Ch;obtain rfl:n2=n1:=by have h1:=Bc.o.len;have h2:=Ae.o.len;omega
   clear AO Ch;refine hK.out _ _ (A7.o _ Ac.o) (fun _=>?_);refine az_ 5 fun K hK=>?_
   go_simp;go_at_call 19;refine (same_any A1 n2 k1 A2 k2 (bz_ t.s x ts cs) z2 (Ae.o.up Ac.o) Bc.o (by rw [<-Bc.o.len];exact Nat.le_trans (en_ (ea_ cs A5.o.good A5.o.small).1.1 (ea_ cs A5.o.good A5.o.small).2) d_)).mono ?_;rintro e z3 ⟨rfl,C1⟩;have A9:=q_ (Ac.o.trans (C1.mono Ac.o.size));clear C1;refine hK.out _ _ (A7.o _ A9.o) (fun _=>?_);refine aa_ 6 72 ?_;refine wpAnyH_done k_ ?_ _;have Cq:=q_ (A5.o.put (w1:=z3) (c':=k1) (Ah.o.trans (A9.o.mono Ah.o.size)) (Ae.o.up A9.o) Cs.o (ea_ cs A5.o.good A5.o.small).1 (ea_ cs A5.o.good A5.o.small).2);have Cr:=q_ ((Bo.o.ba_ (Ah.o.trans (A9.o.mono Ah.o.size))).setCell (p:=(a_ A4)) (.inl rfl) (.slice A1 n2 k1));have CS:=(A7.o _ A9.o).1;have CR:=(A7.o _ A9.o).2;have CN:=(A6.o _ A9.o).q.2.2;go_wp2_with fail;go_roundw
   case rel=>exact ⟨jj+1,_,_,_,_,o_,zc_,Cq,Cr⟩
   case measure=>simp [intOf] <;> omega
  case rest =>
  rename World=>w20
  obtain ⟨ts,QA,qn,qc,Ai,B3⟩:=hcut;clear BC By Ag BD;have A8:=h_ (Below w20 w20 w20.drew) (Below.drew (b_));have A6:=h_ (∀ wz,Below w20 w20 wz->Gq w Ad A4 fb fn (some (a_ g2)) (n+1) (l ++ [A0]) ts QA qn qc wz) (fun wz hb=>Ai.o.below hb);have A7:=h_ (∀ w',Below w20 w20 w'->w'.cell? (a_ A4)=some (.slice QA qn qc)/\w'.cell? (a_ Am)=some (i_ t.s)/\w'.cell? (f_ Ad 1)=some (i_ fn)) (fun w' hb=>⟨(A6.o w' hb).q.2.1 0 _ rfl,(B3.o.below hb).2.1 0 _ t.c0,(A6.o w' hb).f.2.1 1 _ rfl⟩);have Ax:qn<=1000000:=by rw [<-Ai.o.pr.len];exact Nat.le_trans (en_ Ai.o.good.1 Ai.o.small) d_
  have Ay:IntKind.i64.wrap nn=nn:=by have:=BE.o;rw [IntKind.wrap_i64];omega
  go_upto_region 19 with fail;refine aq_ (S:=fun w':World=>w'.cell? (a_ A4)=some (.slice QA qn qc)/\w'.cell? (a_ Am)=some (i_ t.s)/\w'.cell? (f_ Ad 1)=some (i_ fn)) rfl (A7.o _ A8.o) (fun _=>?_);go_simp;refine aa_ 0 75 ?_;refine aa_ 1 76 ?_;refine aa_ 2 77 ?_;refine aa_ 3 78 ?_;refine aa_ 4 79 ?_;refine aa_ 5 80 ?_;refine aa_ 6 81 ?_;refine aa_ 7 82 ?_;refine aa_ 9 84 ?_;refine aa_ 10 85 ?_;refine aa_ 11 86 ?_;refine aa_ 12 87 ?_;refine aa_ 13 88 ?_;refine aa_ 14 89 ?_;refine aa_ 15 90 ?_;refine aa_ 16 91 ?_;refine bf_ 8 k_ rfl (fun K hK=>?_);go_simp;try rw [Ay]
  try rw [AD]
  go_at_call 22;refine (guesses_any QA qn qc ts t.s fn nn st w20.drew (A6.o _ A8.o).pr (A6.o _ A8.o).good.1 Ax).mono ?_;rintro e y1 ⟨B1,Bw,Bu,rfl,hsz,A3⟩;have Af:=q_ (A8.o.trans (A3.mono A8.o.size));have Al:=q_ hsz;have B7:=q_ A3;clear A3 hsz;refine hK.out _ _ (A7.o _ Af.o) (fun _=>?_);refine az_ 17 fun K hK=>?_
  go_simp;try rw [Ay]
  try rw [AD]
  go_at_call 23;refine (fe_ QA qn qc ts t.s fn nn st y1 (A6.o _ Af.o).pr (A6.o _ Af.o).good.1 Ax).mono ?_;rintro e y2 ⟨B2,AT,Bv,rfl,hsz,A3⟩;have Ac:=q_ (Af.o.trans (A3.mono Af.o.size));have Ae:=q_ hsz;have Ao:=q_ A3;clear A3 hsz;refine hK.out _ _ (A7.o _ Ac.o) (fun _=>?_);refine az_ 18 fun K hK=>?_
  go_simp;go_at_call 21;obtain rfl:AT=Bw:=by have h1:=Al.o.len;have h2:=Ae.o.len;omega
  refine (samecells_any B1 AT Bu B2 Bv (guessP ts t.s fn nn st) y2 (Al.o.up Ao.o) Ae.o w4_).mono ?_;rintro e y3 ⟨rfl,A3⟩;have A9:=q_ (Ac.o.trans (A3.mono Ac.o.size));clear A3;refine hK.out _ _ (A7.o _ A9.o) (fun _=>?_);refine aa_ 19 94 ?_;refine aa_ 20 95 ?_;refine aa_ 21 96 ?_;refine aa_ 22 97 ?_;refine aa_ 23 98 ?_;refine aa_ 24 99 ?_;refine aa_ 25 100 ?_;refine aa_ 26 101 ?_;refine aa_ 28 103 ?_;refine aa_ 29 104 ?_;refine aa_ 30 105 ?_;refine aa_ 31 106 ?_;refine aa_ 32 107 ?_;refine aa_ 33 108 ?_;refine bf_ 27 k_ rfl (fun K hK=>?_);go_simp;try rw [Ay]
  try rw [AD]
  go_at_call 22;refine (guesses_any QA qn qc ts t.s fr 20 (!st) y3 (A6.o _ A9.o).pr (A6.o _ A9.o).good.1 Ax).mono ?_;rintro e y4 ⟨Cn,CM,CK,rfl,hsz,A3⟩;have AM:=q_ (A9.o.trans (A3.mono A9.o.size));have BL:=q_ hsz;have Cp:=q_ A3;clear A3 hsz;refine hK.out _ _ (A7.o _ AM.o) (fun _=>?_);refine az_ 34 fun K hK=>?_
  go_simp;try rw [Ay]
  try rw [AD]
  go_at_call 23;refine (fe_ QA qn qc ts t.s fr 20 (!st) y4 (A6.o _ AM.o).pr (A6.o _ AM.o).good.1 Ax).mono ?_;rintro e y5 ⟨Co,Cm,CL,rfl,hsz,A3⟩;have Be:=q_ (AM.o.trans (A3.mono AM.o.size));have Bd:=q_ hsz;have B8:=q_ A3;clear A3 hsz;refine hK.out _ _ (A7.o _ Be.o) (fun _=>?_);refine az_ 35 fun K hK=>?_
  go_simp;go_at_call 21;obtain rfl:Cm=CM:=by have h1:=BL.o.len;have h2:=Bd.o.len;omega
  refine (samecells_any Cn Cm CK Co CL (guessP ts t.s fr 20 (!st)) y5 (BL.o.up B8.o) Bd.o (by rw [<-Bd.o.len];exact Nat.le_trans (guessP_len _ _ _ _ _) d_)).mono ?_;rintro e y6 ⟨rfl,A3⟩;have BQ:=q_ (Be.o.trans (A3.mono Be.o.size));clear A3;refine hK.out _ _ (A7.o _ BQ.o) (fun _=>?_);refine aa_ 36 111 ?_;refine aa_ 37 112 ?_;refine wpAnyH_done k_ ?_ _;go_wp2_with fail;go_roundw
  case rel=>exact ⟨kk+1,ts,QA,qn,qc,o_,zc_,q_ (A6.o _ BQ.o)⟩
  case measure=>simp [intOf] <;> omega
 case rest =>
 rename World=>w30
 obtain ⟨ts,QA,qn,qc,Aj⟩:=hcut;clear BB;have A8:=h_ (Below w30 w30 w30.drew) (Below.drew (b_));have A6:=h_ (∀ wz,Below w30 w30 wz->Gq w Ad A4 fb fn (some (a_ g2)) (n+1) (l ++ [A0]) ts QA qn qc wz) (fun wz hb=>Aj.o.below hb);have A7:=h_ (∀ w',Below w30 w30 w'->w'.cell? (a_ A4)=some (.slice QA qn qc)) (fun w' hb=>(A6.o w' hb).q.2.1 0 _ rfl);have Ax:qn<=1000000:=by rw [<-Aj.o.pr.len];exact Nat.le_trans (en_ Aj.o.good.1 Aj.o.small) d_
 have Ay:IntKind.i64.wrap nn=nn:=by have:=BE.o;rw [IntKind.wrap_i64];omega
 have AD:IntKind.i64.wrap start=start:=by have:=BM.o;rw [IntKind.wrap_i64];omega
 go_upto_region 22 with fail;refine aq_ (S:=fun w':World=>w'.cell? (a_ A4)=some (.slice QA qn qc)) rfl (A7.o _ A8.o) (fun _=>?_);go_simp;refine aa_ 0 114 ?_;refine aa_ 1 115 ?_;refine aa_ 2 116 ?_;refine aa_ 3 117 ?_;refine aa_ 4 118 ?_;refine aa_ 5 119 ?_;refine aa_ 6 120 ?_;refine aa_ 8 122 ?_;refine aa_ 9 123 ?_;refine aa_ 10 124 ?_;refine aa_ 11 125 ?_;refine aa_ 12 126 ?_;refine aa_ 13 127 ?_;refine aa_ 14 128 ?_;refine bf_ 7 k_ rfl (fun K hK=>?_);go_simp;try rw [Ay]
 try rw [AD]
 go_at_call 22;refine (guesses_any QA qn qc ts start fr nn st w30.drew (A6.o _ A8.o).pr (A6.o _ A8.o).good.1 Ax).mono ?_;rintro e y1 ⟨B1,Bw,Bu,rfl,hsz,A3⟩;have Af:=q_ (A8.o.trans (A3.mono A8.o.size));have Al:=q_ hsz;have B7:=q_ A3;clear A3 hsz;refine hK.out _ _ (A7.o _ Af.o) (fun _=>?_);refine az_ 15 fun K hK=>?_
 go_simp;try rw [Ay]
 try rw [AD]
 go_at_call 23;refine (fe_ QA qn qc ts start fr nn st y1 (A6.o _ Af.o).pr (A6.o _ Af.o).good.1 Ax).mono ?_;rintro e y2 ⟨B2,AT,Bv,rfl,hsz,A3⟩;have Ac:=q_ (Af.o.trans (A3.mono Af.o.size));have Ae:=q_ hsz;have Ao:=q_ A3;clear A3 hsz;refine hK.out _ _ (A7.o _ Ac.o) (fun _=>?_);refine az_ 16 fun K hK=>?_
 go_simp;go_at_call 21;obtain rfl:AT=Bw:=by have h1:=Al.o.len;have h2:=Ae.o.len;omega
 refine (samecells_any B1 AT Bu B2 Bv (guessP ts start fr nn st) y2 (Al.o.up Ao.o) Ae.o w4_).mono ?_;rintro e y3 ⟨rfl,A3⟩;have A9:=q_ (Ac.o.trans (A3.mono Ac.o.size));clear A3;refine hK.out _ _ (A7.o _ A9.o) (fun _=>?_);refine aa_ 17 12 ?_;refine wpAnyH_done k_ ?_ _;go_wp2_with fail;go_ret;exact ⟨rfl,(A6.o _ A9.o).bel⟩
end Go.Proofs.YtfolidlmgfhkiaaGreat.Pr
