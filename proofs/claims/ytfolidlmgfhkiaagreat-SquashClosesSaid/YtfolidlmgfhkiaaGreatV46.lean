/- Lemmas on functions of the program, under the conditions that each states. -/
import Derived.Test.YtfolidlmgfhkiaaGreatV43
import Derived.Test.YtfolidlmgfhkiaaGreatV45
set_option linter.unusedVariables false
set_option linter.unusedSimpArgs false
set_option maxRecDepth 100000
set_option maxHeartbeats 60000000
namespace Go.Proofs.YtfolidlmgfhkiaaGreat.Sq
open Go.RowKit Go.Proofs.Tryz
theorem law_any (SA:OA) (sn sc:Nat) (sl:List Int) (k0:Int) (w:World) (hs:Sl w w 1 byteCells SA sn sl) (hsl:∀ (i:Nat) (x:Int),sl[i]?=some x->0<=x/\x<=255) (hnc:sn<=sc) (hsn:sn<=9223372036854775807) (hsc:sc<=9223372036854775807)
  (hk0:-9223372036854775808<=k0/\k0<=9223372036854775807) :
  Calls prog 3 #[.slice SA sn sc,i_ k0] w fun e w'=>e=.returned (.bool true)/\Below w w w':=by
 have AL:=q_ hs;have Aa:=q_ hsl;have Ba:=q_ hk0;clear hs hsl hk0;go_enter func3,ntmps3;go_wp2_with fail;refine (sane_any w).mono ?_;rintro e w1 ⟨rfl,Ax⟩;have AM:=q_ (AL.o.up Ax);have Ai:=q_ Ax;clear Ax AL;go_wp2_with fail;refine (new_dice SA sn sc sl w1 AM.o Aa.o hnc hsn hsc).mono ?_;rintro e w2 ⟨d,rfl,hD,AU,AS⟩;have Aq:=q_ (Ai.o.trans (AS.mono Ai.o.size));have Ar:=q_ hD;have B3:w<=d:=Nat.le_trans Ai.o.size AU;have AN:=q_ B3;clear AS hD AU AM Aa Ai;go_wp2_with fail;refine (Made_m d (fun q=>q=d) w2 Ar.o (fun q hq=>by subst hq;exact Ar.o.lt) rfl).mono ?_;rintro e w3 ⟨⟨k,us,vs,B,m,c,nx,rfl,Ap,AI,Aw,Bv,AH,AP⟩,hR⟩;have AJ:=h_ (Below w w w3) (Aq.o.trans (hR.kp.below Aq.o.size (fun q hq e=>by subst e;have:=AN.o;omega)));obtain ⟨lt,hl,AF⟩:=sqs_of AH.o d_;obtain ⟨HA,hn,hc,B2,AC⟩:=AI.o.us.slc (j:=0) (e:=objT) rfl;obtain ⟨ol,AX,_⟩:=AC.hp d_;obtain ⟨l,An⟩:=tr_of (w0:=w3) (l:=lt) (fun t ht=>(AF t ht).rq);have Be:=q_ AX;have Bf:=h_ (hn<=9000000000000) (Nat.le_trans AC.le d_);have Bj:=q_ (Ap.o.cu 0 _ B2);have Au:=q_ Aw;have HL:=q_ hl;have Bb:=q_ (sl_tr An hl);have Bc:=q_ An;have Bg:=q_ AF;have Bu:m<=c:=AH.o.cap;have Ao:vs.length=cq_.length:=Ap.o.lx;have H1:=h_ (∀ u ∈ vs,u.oneCell'=true) (scene_one Ap.o AI.o Aw AP);have IV:=h_ ((prog.info? 43).map (·.size)=some vs.length) (by rw [Ao];exact isz_43);have BN:=q_ (Bx.new w3 zl7 43);have TH:=h_ ((w3.alloc (.cells zl7.toArray 43)).there w3 0 vs.length) (BN.o.there (by rw [Ao];decide));obtain ⟨b5,Ay⟩:=ex_ (w3:Nat);obtain ⟨U,hU⟩:=ex_ ((w3.alloc (.cells zl7.toArray 43)).setCells w3 0 vs);have A0:Below w3 w3 U:=by rw [hU];exact (ag_ w3 vs 0 (Kp.of_below (X:=fun _=>False) ((b_).alloc (l_) _)) (.inr (l_))).below (l_) (fun _ _ h=>h)
 have BU:=h_ (Bx U w3 vs) (by rw [hU];exact BN.o.all vs Ao);have A2:=q_ A0;have Am:=q_ (AJ.o.trans (A0.mono AJ.o.size));clear hR hl AH Ap AI Aw AP Ao A0 B2 AC AX AF Ar Aq AN B3 An;go_upto_region 4 with (with_reducible refine ab_ rfl 43 (.tmp 5) (.tmp 19) rfl vs w_ v_ TH.o IV.o H1.o ?_);rw [<-hU,<-Ay];rw [<-Ay] at BU;clear hU Ay BN TH IV H1;have HC:=h_ (∀ w',Below U U w'->w'.cell? (f_ b5 5)=some (.slice HA hn hc)/\w'.cell? (f_ b5 15)=some (.slice B m c)) (fun w' hb=>⟨(BU.o.below hb).2.1 5 _ Bj.o,(BU.o.below hb).2.1 15 _ Au.o⟩);have HH:=q_ (Be.o.up A2.o);have Bd:=q_ (Bb.o.up A2.o);obtain ⟨src,A6⟩:=ex_ ((fun (j:Nat) (c:Cl)=>srcP (fun i f=>cn_ i f (ol.map Ob.po)) (l.map (·.t)) j c.id c.field));have Bh:=q_ A6;have A3:=h_ (∀ (q:Nat) (w':World),q<m->Below U U w'->Calls prog 11 #[.agg #[.slice HA hn hc],.slice B m c,i_ q] w' (GivesI (dep src lt q (m - (q+1))) w')) (fun q w' hq hb=>by
  have h:=dependents_any HA hn hc ol B m c w3 l q w' (A2.o.trans (hb.mono A2.o.size)) (HH.o.up hb) Bf.o (Bd.o.up hb) o_ Bu hq
  rw [<-A6,Bc.o] at h
  exact h)
 have x5:=(HC.o U (b_)).1;have x15:=(HC.o U (b_)).2;have A9:=h_ (lt.length=m) (by have:=HL.o.len;exact this);clear A6;rcases Nat.eq_zero_or_pos m with hm0 | hm0
 ·subst hm0;go_wp2_with fail;refine (dependents_none HA hn hc B c k0 U).mono ?_;rintro e w4 ⟨rfl,A4⟩;have A7:=q_ (Am.o.trans (A4.mono Am.o.size));clear A4 x5 x15;go_wp2_with fail;go_ret;exact ⟨rfl,A7.o⟩
 have Br:¬(m:Int)=0:=by omega
 have Bs:((m:Int) == 0)=false:=by simp;omega
 go_wp2_with fail;refine (mod_any k0 m U hm0 o_ Ba.o).mono ?_;rintro e w4 ⟨kk,AW,Bq,rfl,A4⟩;clear Bq;have A7:=q_ A4;have y5:=(HC.o w4 A4).1;have BB:=(HC.o w4 A4).2;clear x5 x15 A4;go_wp2_with fail;refine (A3.o kk w4 AW A7.o).mono ?_;rintro e w5 ⟨DA,dn,dc,rfl,AZ,Ad⟩;have AK:=q_ (A7.o.trans (Ad.mono A7.o.size));have A1:=q_ AZ;have BE:dn<=17:=by have:=A1.o.len;have:=dep_len (src:=src) (l:=lt) (k:=kk) (m - (kk+1));omega
 obtain ⟨dp,AA⟩:=ex_ (dep src lt kk (m - (kk+1)));have Ak:=q_ AA;rw [<-AA] at A1;clear Ad y5 BB AZ AA;go_wp2_with fail;go_loopw [47] (fun i wr=>∃ q:Nat,q<=dn/\i=i_ q/\Hid (Below w5 w5 wr)) (fun i _=>dn - (intOf i).toNat)
 case atStart=>exact ⟨0,Nat.zero_le _,rfl,q_ (b_)⟩
 obtain ⟨q,hq,rfl,hb⟩:=hrel;have A0:=q_ (AK.o.trans (hb.o.mono AK.o.size));by_cases An:q<dn
 case pos =>
  have AY:(q:Int)<(dn:Int):=by omega
  obtain ⟨ab,ao,hA,BH,AR⟩:=(A1.o.up hb.o).at_ o_;subst hA;obtain ⟨x,hx⟩:∃ x,dp[q]?=some x:=⟨_,ge_ (by have:=A1.o.len;omega)⟩;have A5:=List.mem_of_getElem? hx;obtain ⟨j,rfl,BG,Bo⟩:=dy_ (src:=src) (l:=lt) (k:=kk) (m - (kk+1)) x (by rw [<-Ak.o];exact A5);have B9:=q_ (show (j:Int) ∈ dep src lt kk (m - (kk+1)) by rw [<-Ak.o];exact A5);have AD:j<m:=by omega
  have Bp:¬(j:Int)<(kk:Int):=by omega
  have c0:wr.cell? ⟨ab,ao+q,none⟩=some (i_ j):=by have h:=AR q _ hx 0 _ rfl;rwa [Nat.mul_one,Nat.add_zero] at h
  have x5:=(HC.o wr A0.o).1;have x15:=(HC.o wr A0.o).2;clear AR hx A5 Bo;go_wp2_with fail;refine (A3.o j wr AD A0.o).mono ?_;rintro e w6 ⟨EA,en,ec,rfl,B0,AT⟩;have Aj:=q_ (hb.o.trans (AT.mono hb.o.size));have Al:=q_ B0;have BF:en<=17:=by have:=Al.o.len;have:=dep_len (src:=src) (l:=lt) (k:=j) (m - (j+1));omega
  obtain ⟨ep,AB⟩:=ex_ (dep src lt j (m - (j+1)));have B7:=q_ AB;rw [<-AB] at Al;clear AT x5 x15 B0 AB c0;go_wp2_with fail;go_loopw [62] (fun i wx=>∃ r:Nat,r<=en/\i=i_ r/\Hid (Below w6 w6 wx)) (fun i _=>en - (intOf i).toNat)
  case atStart=>exact ⟨0,Nat.zero_le _,rfl,q_ (b_)⟩
  rename World=>wx
  obtain ⟨r,hr,rfl,Ae⟩:=hrel;by_cases hrn:r<en
  case neg =>
   have Bw:¬(r:Int)<(en:Int):=by omega
   have B5:=q_ (Aj.o.trans (Ae.o.mono Aj.o.size));go_wp2_with fail;go_roundw
   case rel=>exact ⟨q+1,o_,zb_,B5⟩
   case measure=>simp [intOf] <;> omega
  case pos =>
  have Bw:(r:Int)<(en:Int):=by omega
  obtain ⟨eb,eo,hE,Bm,AQ⟩:=(Al.o.up Ae.o).at_ o_;subst hE;obtain ⟨y,hy⟩:∃ y,ep[r]?=some y:=⟨_,ge_ (by have:=Al.o.len;omega)⟩;have e0:wx.cell? ⟨eb,eo+r,none⟩=some (i_ y):=by have h:=AQ r _ hy 0 _ rfl;rwa [Nat.mul_one,Nat.add_zero] at h
  have Bk:=q_ (show y ∈ dp from by
   rw [Ak.o]
   exact dep_closed' A9.o AW B9.o (by rw [<-B7.o];exact List.mem_of_getElem? hy))
  have Bi:=q_ (A1.o.up (Aj.o.trans (Ae.o.mono Aj.o.size)));clear AQ hy;go_wp2_with fail;go_loopw [11,68] (fun f i wy=>∃ (fd:Bool) (s:Nat),s<=dn/\f=.bool fd/\i=i_ s/\Hid (fd=(dp.take s).contains y)/\Hid (Below wx wx wy)) (fun _ i _=>dn - (intOf i).toNat)
  case atStart=>exact ⟨false,0,Nat.zero_le _,rfl,rfl,q_ rfl,q_ (b_)⟩
  rename World=>wy
  obtain ⟨fd,s,hs,rfl,rfl,AV,Af⟩:=hrel;by_cases hsn':s<dn
  case neg =>
   have By:¬(s:Int)<(dn:Int):=by omega
   have Bn:fd=true:=by
    rw [AV.o,List.contains_iff_mem,List.take_of_length_le (by have:=A1.o.len;omega)];exact Bk.o
   subst Bn;have B6:=q_ (Ae.o.trans (Af.o.mono Ae.o.size));go_wp2_with fail;go_roundw
   case rel=>exact ⟨r+1,o_,zb_,B6⟩
   case measure=>simp [intOf] <;> omega
  case pos =>
  have By:(s:Int)<(dn:Int):=by omega
  obtain ⟨z,hz⟩:∃ z,dp[s]?=some z:=⟨_,ge_ (by have:=A1.o.len;omega)⟩;obtain ⟨BC,BD,e1,AE,Ab⟩:=Bi.o.at_ o_;injection e1 with e1;injection e1 with e1 e2;subst e1 e2;have z0:wy.cell? ⟨ab,ao+s,none⟩=some (i_ z):=by have h:=(belc Af.o AE).trans (Ab s _ hz 0 _ rfl);rwa [Nat.mul_one,Nat.add_zero] at h
  have HZ:=q_ (show (dp.take (s+1)).contains y=(fd || z == y) from by
   rw [AV.o,List.take_add_one,hz,Bool.eq_iff_iff,List.contains_iff_mem,List.mem_append,Bool.or_eq_true,List.contains_iff_mem]
   exact or_congr Iff.rfl (by simp only [Option.toList,List.mem_singleton,beq_iff_eq];exact eq_comm))
  clear Ab hz;cases fd
  ·by_cases hzy:z=y
   ·have HV:=h_ ((dp.take (s+1)).contains y=true) (by rw [HZ.o,hzy];simp);have BA:(z == y)=true:=by simp [hzy]
    go_wp2_with fail;go_roundw
    case rel=>exact ⟨true,s+1,o_,rfl,zb_,q_ HV.o.symm,Af⟩
    case measure=>simp [intOf] <;> omega
   have HV:=h_ ((dp.take (s+1)).contains y=false) (by rw [HZ.o];simpa using hzy);have BA:(z == y)=false:=by simpa using hzy
   go_wp2_with fail;go_roundw
   case rel=>exact ⟨false,s+1,o_,rfl,zb_,q_ HV.o.symm,Af⟩
   case measure=>simp [intOf] <;> omega
  have HV:=h_ ((dp.take (s+1)).contains y=true) (by rw [HZ.o];simp);go_wp2_with fail;go_roundw
  case rel=>exact ⟨true,s+1,o_,rfl,zb_,q_ HV.o.symm,Af⟩
  case measure=>simp [intOf] <;> omega
 case neg =>
 have AY:¬(q:Int)<(dn:Int):=by omega
 have x5:=(HC.o wr A0.o).1;have x15:=(HC.o wr A0.o).2;have BI:IntKind.i64.wrap ((m:Int) - 1)=((m - 1:Nat):Int):=by rw [IntKind.wrap_i64];omega
 have Bt:(m:Int) - 1=((m - 1:Nat):Int):=by omega
 have Bl:=h_ (m - 1<m) o_;go_wp2_with fail;refine (A3.o (m - 1) wr Bl.o A0.o).mono ?_;rintro e w7 ⟨LA,ln,lc,rfl,Ah,Az⟩;obtain rfl:ln=1:=by
  have h:=Ah.len;rw [show m - (m - 1+1)=0 by omega] at h;exact h.symm
 have B4:=q_ (A0.o.trans (Az.mono A0.o.size));have A8:=h_ (Below U U w7.drew) (Below.drew B4.o);have hout:dn+outN dp m=m:=by
  have h:=dep_out (src:=src) (l:=lt) (k:=kk) (m - (kk+1)) (by have:=A9.o;omega);rw [<-Ak.o,show kk+1+(m - (kk+1))=m by omega] at h;have:=A1.o.len;omega
 have Bz:IntKind.i64.wrap ((dn:Int)+((outN dp m:Nat):Int))=(m:Int):=by rw [IntKind.wrap_i64];omega
 have AG:IntKind.i64.wrap (((m - 1:Nat):Int) - (kk:Int))=((m - (kk+1):Nat):Int):=by rw [IntKind.wrap_i64];omega
 have As:=q_ (A1.o.up (hb.o.trans (Az.mono hb.o.size)));clear Ah Az x5 x15 hout AY;go_upto_region 27 with fail;refine aq_ (S:=fun w':World=>w'.cell? (f_ b5 15)=some (.slice B m c)) rfl (HC.o _ A8.o).2 (fun _=>?_);go_simp;refine aa_ 0 93 ?_;refine aa_ 1 94 ?_;refine aa_ 2 95 ?_;refine aa_ 3 96 ?_;refine aa_ 4 97 ?_;refine aa_ 5 98 ?_;refine aa_ 6 99 ?_;refine aa_ 7 100 ?_;refine aa_ 8 101 ?_;refine aa_ 12 105 ?_;refine aa_ 13 106 ?_;refine aa_ 14 107 ?_;refine ba_ 9 k_ rfl (fun K hK=>?_);go_simp;go_at_call 13;refine (remove_any B m c lt DA dn dc dp w7.drew (HL.o.up (A2.o.trans (A8.o.mono A2.o.size))) o_ (fun t ht=>(Bg.o t ht).up (A2.o.trans (A8.o.mono A2.o.size))) (As.o.up (Below.drew (b_))) o_).mono ?_;rintro e z1 ⟨ZA,zc,rfl,Ag⟩;have Av:=q_ (A8.o.trans (Ag.mono A8.o.size));clear Ag;refine hK.out _ _ (HC.o _ Av.o).2 (fun _=>?_);refine aa_ 10 103 ?_;refine aa_ 11 104 ?_;refine aa_ 15 108 ?_;refine aa_ 16 109 ?_;refine aa_ 17 110 ?_;refine aa_ 18 111 ?_;refine aa_ 19 112 ?_;refine aa_ 20 113 ?_;refine aa_ 23 116 ?_;refine aa_ 24 117 ?_;refine aa_ 25 118 ?_;refine aa_ 26 119 ?_;refine aa_ 27 120 ?_;refine aa_ 28 121 ?_;refine ba_ 21 k_ rfl (fun K hK=>?_);go_simp;go_at_call 14;refine (after_any B m c kk o_ z1).mono ?_;rintro e z2 ⟨FA,fn,fc,rfl,B1,Ag⟩;obtain rfl:fn=m - (kk+1):=by rw [<-aft_len kk m];exact B1.len.symm
 have AO:=q_ (Av.o.trans (Ag.mono Av.o.size));clear Ag B1;refine hK.out _ _ (HC.o _ AO.o).2 (fun _=>?_);refine aa_ 22 115 ?_;refine aa_ 29 122 ?_;refine aa_ 30 123 ?_;refine aa_ 31 4 ?_;refine wpAnyH_done k_ ?_ _;have B8:=h_ (((((m - (kk+1):Nat):Int)) == IntKind.i64.wrap (IntKind.i64.wrap ((m - 1:Nat):Int) - (kk:Int)))=true) (by rw [show IntKind.i64.wrap ((m - 1:Nat):Int)=((m - 1:Nat):Int) from by rw [IntKind.wrap_i64];omega,AG];simp);go_wp2_with fail;go_ret;exact ⟨congrArg (fun b=>Ending.returned (.bool b)) B8.o,Am.o.trans (AO.o.mono Am.o.size)⟩
end Go.Proofs.YtfolidlmgfhkiaaGreat.Sq
