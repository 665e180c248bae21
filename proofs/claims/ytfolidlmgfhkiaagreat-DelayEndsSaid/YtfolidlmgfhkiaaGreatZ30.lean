/- Lemmas: each says what a function of the program leaves, under the conditions that it states. -/
import Derived.Test.YtfolidlmgfhkiaaGreatZ17
import Derived.Test.YtfolidlmgfhkiaaGreatZ29
set_option linter.unusedVariables false
set_option linter.unusedSimpArgs false
set_option maxRecDepth 100000
set_option maxHeartbeats 4000000
namespace Go.Proofs.YtfolidlmgfhkiaaGreat
open Go.RowKit Go.Proofs.Tryz
theorem Mv.broken {l:List In} {pc:Int} {vs:VL} (h:vs[81]?=some (.bool true)):Mv l pc vs:=fun _ _ _ _ h3=>by rw [h] at h3;cases h3
theorem dy_ {X Z Y:NP} {w0:World} {LL:List LV} {b K L:Nat} {l:List In} {pc:Int} {C:Nat->VL} (w:World) (h:OneS X Z w0 LL b K L l pc Y C w) (hK:K<=1000000000) (hL:L<=100000) (id f:Int) :
  Calls prog 124 #[.pointer (some (a_ b)),i_ id,i_ f] w fun e w'=>(∃ v:Val,e=.returned (.agg #[.bool v.ref,i_ v.n]))/\Ms X Z w0 LL b K (L+1) l pc Y C w w' (fun j=>j≠72/\j≠81):=by
 obtain ⟨i0,z0,Aq,As,Ar,Ap,Au⟩:=ei_cell.hi;obtain ⟨A0,n0,c0,_,Af,Ai,_,_⟩:=h.fr.own (i:=0) rfl (j:=72) (e:=as_) (et:=87) rfl rfl;have AD:n0<=L:=Ai;have HS:=q_ (h.raise (Nat.le_succ L));obtain ⟨W,Y1,C1,hW,Ax,u1,f1,c1,cO⟩:=HS.o.fr.add1 0 valT [.bool false,i_ 0] 38 (vtsval _ _);have AC:=HS.o.fr.blt (i:=0) rfl;obtain ⟨HA,hn,hc,Av,hH,Am⟩:=f1.slc (i:=1) rfl (j:=36) (e:=objT) rfl rfl;have HH:=h_ (SlT W Y1 K objT HA hn hc) hH;have F1:=q_ f1;have U1:=q_ u1;have Ak:=q_ c1;have Ae:=q_ cO;have Aj:=q_ Af;clear h f1 u1 c1 cO hH Ai Af Am;go_enter func124,ntmps124;go_upto_region 1 with fail;rw [←hW];clear hW;go_wp2_with fail;refine (Read_t Y1 K HA hn hc id f W HH.o o_).mono ?_;rintro e S ⟨⟨v,ok,rfl⟩,hS⟩;have F2:=q_ (F1.o.call hS);have U2:=q_ (U1.o.trans (Up.of_below hS));clear hS Av;obtain ⟨V,Y3,C3,hV,Ao,u3,f3,c3,A8⟩:=F2.o.add1 0 valT [.bool v.ref,i_ v.n] 38 (vtsval _ _);have AB:=F2.o.blt (i:=1) rfl;have AE:=F2.o.blt (i:=0) rfl;have Ad:=f3.tru (i:=2) rfl (j:=81) rfl rfl;obtain ⟨bk,Ad,_⟩:=Ad;have eb:C3 b=C b:=by rw [A8 b o_,Ae.o b o_]
 have er:C3 w=[.bool false,i_ 0]:=by rw [A8 _ o_];exact Ak.o
 have U3:=q_ (U2.o.trans u3);have F3:=q_ f3;have A2:=q_ eb;have A3:=q_ er;have A7:=q_ c3;have Aa:=h_ (∀ q,q<w.heap.size->C3 q=C q) (fun q hq=>by rw [A8 q o_,Ae.o q o_]);have v0:=f3.cell (i:=0) rfl (j:=0) (by rw [c3];rfl);have v1:=f3.cell (i:=0) rfl (j:=1) (by rw [c3];rfl);have r0:=f3.cell (i:=1) rfl (j:=0) (by rw [er];rfl);have r1:=f3.cell (i:=1) rfl (j:=1) (by rw [er];rfl);have fr:=f3.fz (i:=1) rfl;have fb:=f3.fz (i:=2) rfl;clear u3 f3 c3 A8 eb er Ao;go_upto_region 2 with fail;rw [←hV];clear hV;cases ok
 ·obtain ⟨f4,u4⟩:=F3.o.set (i:=2) (j:=81) (t:=.tru) (v:=.bool true) rfl rfl rfl (.tru _);obtain ⟨f5,u5⟩:=f4.set (i:=1) (j:=0) (t:=.tru) (v:=.bool false) rfl rfl rfl (.tru _);obtain ⟨f6,u6⟩:=f5.set (i:=1) (j:=1) (t:=.num) (v:=i_ 0) rfl rfl rfl (.num _);go_wp2;refine retC results124 (by rfl) underlying38 rfl (f6.info (i:=1) rfl isz_38) (f6.box (i:=1) rfl).whole rfl ?_;have hne:w≠b:=by omega
  have A1:b≠w:=by omega
  refine ⟨⟨⟨false,0⟩,?_⟩,Y3,_,HS.o.go (LL':=LL) f6.tail.tail (((U3.o.trans u4).trans u5).trans u6) (fun j hj=>?_) (fun _=>Mv.broken ?_),((U3.o.trans u4).trans u5).trans u6,fun q hq A6=>?_,fun j hj=>?_⟩
  ·rw [upd_same,upd_same,ad_ _ _ hne,A3.o];rfl
  ·rw [ad_ _ _ A1,ad_ _ _ A1,upd_same,gs_,if_neg o_,A2.o]
  ·rw [ad_ _ _ A1,ad_ _ _ A1,upd_same,gs_,if_pos rfl,if_pos (by have:=F3.o.len (i:=2) rfl;rw [this];decide)]
  ·rw [ad_ _ _ o_,ad_ _ _ o_,ad_ _ _ hq,Aa.o q A6]
  rw [ad_ _ _ A1,ad_ _ _ A1,upd_same,gs_,if_neg o_,A2.o]
 obtain ⟨A,n,c,Ac,hC,hn,hO,hY⟩:=F3.o.own (i:=2) rfl (j:=72) (e:=as_) (et:=87) rfl rfl;have A9:=hC;rw [A2.o,Aj.o] at A9;injection A9 with A9;injection A9 with q1 q2 q3;subst q1 q2 q3;have HC:=q_ hC;have HY:=q_ hY;have HO:=h_ (OwT V 0 87 as_ Y3 (L+1) A0 n0 c0) hO;have HL:=q_ (HO.o.any (by omega:n0<=L+1));have KS:=h_ (∀ w',Below V V w'->(w'.cell? (a_ S)=some (.bool v.ref)/\w'.cell? (f_ S 1)=some (i_ v.n)/\w'.cell? (a_ w)=some (.bool false)/\w'.cell? (f_ w 1)=some (i_ 0)/\(∀ j,w'.frozen? (f_ w j)=false)/\w'.cell? (f_ b 72)=some (.slice A0 n0 c0))) (fun w' hb=>by
  have F':=F3.o.call hb
  exact ⟨F'.cell (i:=0) rfl (j:=0) (by rw [A7.o];rfl),F'.cell (i:=0) rfl (j:=1) (by rw [A7.o];rfl),F'.cell (i:=1) rfl (j:=0) (by rw [A3.o];rfl),F'.cell (i:=1) rfl (j:=1) (by rw [A3.o];rfl),F'.fz (i:=1) rfl,F'.cell (i:=2) rfl HC.o⟩)
 clear hn hC hO hY Ad v0 v1 r0 r1 fr fb;go_upto_region 6 with fail;clear Ac;go_loopw [33] (fun i wr=>∃ k:Nat,k<=n0/\i=i_ k/\Below V V wr) (fun i _=>n0 - (intOf i).toNat)
 case atStart=>exact ⟨0,o_,rfl,b_⟩
 obtain ⟨k,hk,rfl,hb⟩:=hrel;have HB:=q_ hb;by_cases hlt:k<n0
 ·have Ab:(k:Int)<(n0:Int):=by omega
  obtain ⟨g,o,hA,hg,x,hx⟩:=HL.o.dp_ hlt;subst hA;obtain ⟨c4,c5,c6,c7⟩:=hx wr hb;obtain ⟨S1,Ag,Ah,An,S0⟩:=af_ wr [i_ x.id,i_ x.field,.bool x.ref,i_ x.n] 87;have s0:=S0.2.1 0 _ rfl;have s1:=S0.2.1 1 _ rfl;have A4:=q_ (hb.trans (Ah.mono hb.size));obtain ⟨v0,v1,r0,r1,fr,_⟩:=KS.o S1 A4.o;clear hx hb Ah An S0;go_upto_region 8 with fail;rw [←Ag];clear Ag c4 c5 c6 c7;by_cases h1:x.id=id
  ·by_cases h2:x.field=f
   ·have F5:=F3.o.call A4.o;obtain ⟨f6,u6⟩:=F5.set (i:=1) (j:=0) (t:=.tru) (v:=.bool v.ref) rfl rfl rfl (.tru _);obtain ⟨f7,u7⟩:=f6.set (i:=1) (j:=1) (t:=.num) (v:=i_ v.n) rfl rfl rfl (.num _);go_wp2;refine retC results124 (by rfl) underlying38 rfl (f7.info (i:=1) rfl isz_38) (f7.box (i:=1) rfl).whole rfl ?_;have hne:w≠b:=by omega
    have A1:b≠w:=by omega
    refine ⟨⟨v,?_⟩,Y3,_,HS.o.go (LL':=LL) f7.tail.tail (((U3.o.trans (.of_below A4.o)).trans u6).trans u7) (fun j hj=>?_) (fun hm=>?_),((U3.o.trans (.of_below A4.o)).trans u6).trans u7,fun q hq A6=>?_,fun j hj=>?_⟩
    ·rw [upd_same,upd_same,A3.o];rfl
    ·rw [ad_ _ _ A1,ad_ _ _ A1,A2.o]
    ·rw [ad_ _ _ A1,ad_ _ _ A1,A2.o];exact hm
    ·rw [ad_ _ _ o_,ad_ _ _ o_,Aa.o q A6]
    rw [ad_ _ _ A1,ad_ _ _ A1,A2.o]
   go_wp2;go_roundw
   case rel=>exact ⟨k+1,o_,by go_num,A4.o⟩
   case measure=>simp [intOf];omega
  go_wp2;go_roundw
  case rel=>exact ⟨k+1,o_,by go_num,A4.o⟩
  case measure=>simp [intOf];omega
 have Ab:¬(k:Int)<(n0:Int):=by omega
 have F4:=q_ (F3.o.call hb);have U4:=q_ (U3.o.trans (Up.of_below hb));have HA:=h_ (Below wr wr (wr.drew.alloc (.cells #[i_ id,i_ f,.bool v.ref,i_ v.n] 87))) ((Below.drew (b_)).alloc (l_) _);have Al:=h_ (OwT (wr.drew.alloc (.cells #[i_ id,i_ f,.bool v.ref,i_ v.n] 87)) 0 87 as_ Y3 (L+1) A0 n0 c0) ((HO.o.below hb).below HA.o);have HU:=h_ (SlT (wr.drew.alloc (.cells #[i_ id,i_ f,.bool v.ref,i_ v.n] 87)) (Wi Y3 (Value.slice A0 n0 c0).ownBlock) (L+1) as_ (some (a_ wr)) 1 1) ((SlT.lit1 (w:=wr.drew) (e:=as_) (ed_ id f v.ref v.n) _ (fun h=>Nat.lt_irrefl _ (F4.o.lt _ h)) o_).kept (Kp.refl _ _) (fun k _ h1 h2=>h2.elim h1 (fun h3=>h1 (HY.o k h3))) (l_));have HG:=h_ (∀ w',(wr.drew.alloc (.cells #[i_ id,i_ f,.bool v.ref,i_ v.n] 87)).grownBy w' (Value.slice A0 n0 c0).ownBlock->(Bx w' b (C3 b)/\∀ (i:Nat) (p:LV),(⟨S,fun _=>0,valT,noOw⟩ :: ⟨w,fun _=>0,valT,noOw⟩ :: oneL b K (L+1) :: LL:List LV)[i]?=some p->Bx w' p.b (C3 p.b))) (fun w' g'=>by
  have A5:=fun (i:Nat) (p:LV) (hp:(⟨S,fun _=>0,valT,noOw⟩ :: ⟨w,fun _=>0,valT,noOw⟩ :: oneL b K (L+1) :: LL:List LV)[i]?=some p)=>(F4.o.call HA.o).grown_any (j:=72) (i:=2) (t:=.sl as_) (et:=87) rfl rfl rfl HC.o g' i p hp
  exact ⟨A5 2 _ rfl,A5⟩)
 obtain ⟨v0,v1,r0,r1,fr,Ac⟩:=KS.o wr hb;have Az:=F4.o.blt (i:=2) rfl;have Ay:=F4.o.blt (i:=1) rfl;have AA:=F4.o.blt (i:=0) rfl;clear hb;go_upto_region 11 with fail;go_region_law (refine bu_ rfl (.tmp 54) (.tmp 59) 54 rfl 0 87 i0 _ 32 as_ Y3 (L+1) underlying54 Aq As Ar Ap Au d_ A0 n0 c0 v_ Al.o (some (a_ wr)) 1 1 v_ HU.o (fun k hk=>lt_ (F4.o.lt k hk) HA.o.size) m_ o_ (Nat.zero_le _) ?_;intro A' c' w' o' g' l';have O':=q_ o';have G':=q_ g';have L':=q_ l';have BX:=HG.o w' g';have Aw:=BX.1.2.1 72 _ HC.o;have yf:=BX.1.2.2;have yv:=BX.2 0 _ rfl;have yr:=BX.2 1 _ rfl;clear o' g' l' Ac v0 v1 r0 r1 fr);all_goals
  obtain ⟨YY,f5,u5⟩:=(F4.o.call HA.o).append (i:=2) (j:=72) rfl (e:=as_) rfl (et:=87) rfl HC.o O'.out (show n0+1<=L+1 by omega) G'.out L'.out;have AI:=f5.cell (i:=0) rfl (j:=0) (v:=.bool v.ref) (by rw [ad_ _ _ o_,A7.o];rfl);have AJ:=f5.cell (i:=0) rfl (j:=1) (v:=i_ v.n) (by rw [ad_ _ _ o_,A7.o];rfl);have AF:=f5.cell (i:=1) rfl (j:=0) (v:=.bool false) (by rw [ad_ _ _ o_,A3.o];rfl);have AG:=f5.cell (i:=1) rfl (j:=1) (v:=i_ 0) (by rw [ad_ _ _ o_,A3.o];rfl);have AH:=f5.fz (i:=1) rfl;have UA:=q_ ((U4.o.trans (.of_below HA.o)).trans u5);clear BX Aw yf yv yr;obtain ⟨f6,u6⟩:=f5.set (i:=1) (j:=0) (t:=.tru) (v:=.bool v.ref) rfl rfl rfl (.tru _);obtain ⟨f7,u7⟩:=f6.set (i:=1) (j:=1) (t:=.num) (v:=i_ v.n) rfl rfl rfl (.num _);go_wp2;refine retC results124 (by rfl) underlying38 rfl (f7.info (i:=1) rfl isz_38) (f7.box (i:=1) rfl).whole rfl ?_;have hne:w≠b:=by omega
  have A1:b≠w:=by omega
  refine ⟨⟨v,?_⟩,YY,_,HS.o.go (LL':=LL) f7.tail.tail ((UA.o.trans u6).trans u7) (fun j hj=>?_) (fun hm=>?_),(UA.o.trans u6).trans u7,fun q hq A6=>?_,fun j hj=>?_⟩
  ·rw [upd_same,upd_same,ad_ _ _ hne,A3.o];rfl
  ·rw [ad_ _ _ A1,ad_ _ _ A1,upd_same,gs_,if_neg o_,A2.o]
  ·intro kd p h1 h2 h3;rw [ad_ _ _ A1,ad_ _ _ A1,upd_same,gs_,if_neg o_,A2.o] at h1 h2 h3;exact hm kd p h1 h2 h3
  ·rw [ad_ _ _ o_,ad_ _ _ o_,ad_ _ _ hq,Aa.o q A6]
  rw [ad_ _ _ A1,ad_ _ _ A1,upd_same,gs_,if_neg o_,A2.o]
theorem Get_t (X:NP) (K:Nat) (A:OA) (n c:Nat) (id:Int) (w:World) (h:SlT w X K objT A n c) (hK:K<=8796093021952) :
  Calls prog 133 #[.agg #[.slice A n c],i_ id] w fun e w'=>(∃ (i:Int) (A':OA) (n' c':Nat) (b:Bool),e=.returned (.tuple #[.agg #[i_ i,.slice A' n' c'],.bool b]))/\Below w w w':=by
 obtain ⟨l,hl,_⟩:=h.hp hK;refine (refget_any A n c l id w hl (by have:=h.le;omega)).mono ?_;rintro e w' ⟨A',n',c',rfl,_,_,_,hb⟩;exact ⟨⟨_,_,_,_,_,rfl⟩,hb⟩
theorem Mv.upd81 {l:List In} {pc:Int} {vs us:VL} {bk nb:Bool} (h81:vs[81]?=some (.bool bk)) (hm:Mv l pc vs) (e38:us[38]?=vs[38]?) (e39:us[39]?=vs[39]?) (e81:us[81]?=some (.bool nb)) (hb:bk=true->nb=true):Mv l pc us:=fun kd p h1 h2 h3=>by
 rw [e38] at h1;rw [e39] at h2;rw [e81] at h3;injection h3 with h3;injection h3 with h3;subst h3;cases bk
 ·exact hm kd p h1 h2 h81
 cases hb rfl
theorem OneS.set81 {X Z Y:NP} {w0 w:World} {LL:List LV} {b K L:Nat} {l:List In} {pc:Int} {C:Nat->VL} {bk:Bool} (h:OneS X Z w0 LL b K L l pc Y C w) (h81:(C b)[81]?=some (.bool bk)) (nb:Bool) (hb:bk=true->nb=true):Ms X Z w0 LL b K L l pc Y C w (w.setCell (f_ b 81) (.bool nb)) (fun j=>j≠81):=by
 obtain ⟨f,u⟩:=h.fr.set (i:=0) (j:=81) (t:=.tru) (v:=.bool nb) rfl rfl rfl (.tru _);refine ⟨Y,_,h.go f u (fun j hj=>?_) (fun hm=>hm.upd81 h81 ?_ ?_ ?_ hb),u,fun q hq _=>ad_ _ _ hq,fun j hj=>?_⟩
 ·rw [upd_same,gs_,if_neg o_]
 ·rw [upd_same,gs_,if_neg o_]
 ·rw [upd_same,gs_,if_neg o_]
 ·rw [upd_same,gs_,if_pos rfl,if_pos (by have:=h.fr.len (i:=0) rfl;rw [this];decide)]
 rw [upd_same,gs_,if_neg (fun e=>hj e.symm)]
theorem Ms.after {X Z Y:NP} {w0 w w1 w':World} {LL:List LV} {b K L:Nat} {l:List In} {pc:Int} {C:Nat->VL} {J:NP} (hb:Below w w w1) (h:Ms X Z w0 LL b K L l pc Y C w1 w' J):Ms X Z w0 LL b K L l pc Y C w w' J:=by
 obtain ⟨Y',C',h1,h2,h3,h4⟩:=h;exact ⟨Y',C',h1,(Up.of_below hb).trans h2,fun q hq A0=>h3 q hq (lt_ A0 hb.size),h4⟩
theorem root_m {X Z Y:NP} {w0:World} {LL:List LV} {b K L:Nat} {l:List In} {pc:Int} {C:Nat->VL} (w:World) (h:OneS X Z w0 LL b K L l pc Y C w) (hK:K<=1000000000) :
  Calls prog 122 #[.pointer (some (a_ b))] w fun e w'=>e=.returned (.tuple #[])/\Ms X Z w0 LL b K L l pc Y C w w' (fun j=>j≠81):=by
 obtain ⟨HA,hn,hc,A5,hH,A3⟩:=h.fr.slc (i:=0) rfl (j:=36) (e:=objT) rfl rfl;have HH:=h_ (SlT w Y K objT HA hn hc) hH;have HS:=q_ h;clear h hH A3;go_enter func122,ntmps122;go_wp2_with fail;refine (Get_t Y K HA hn hc 1 w HH.o o_).mono ?_;rintro e S ⟨⟨oi,oA,on,oc,ob,rfl⟩,hS⟩;obtain ⟨V,hV,A2,A4,V0⟩:=af_ S [i_ oi,.slice oA on oc] 90;have HB:=q_ (hS.trans (A2.mono hS.size));have v0:=V0.2.1 0 _ rfl;have v1:=V0.2.1 1 _ rfl;have HV:=q_ (HS.o.call HB.o);obtain ⟨bk,A6,A1⟩:=HV.o.fr.tru (i:=0) rfl (j:=81) rfl rfl;have A0:=q_ A1;have fb:=HV.o.fr.fz (i:=0) rfl;clear hS A2 A4 V0 A5 A1;go_upto_region 1 with fail;rw [←hV];clear hV;cases bk
 ·go_wp2;all_goals
   refine end0 (by rfl) rfl ?_;exact ⟨rfl,Ms.after HB.o (HV.o.set81 A0.o _ x_)⟩
 go_wp2;all_goals
  refine end0 (by rfl) rfl ?_;exact ⟨rfl,Ms.after HB.o (HV.o.set81 A0.o _ (fun _=>rfl))⟩
theorem frame_m {X Z Y:NP} {w0:World} {LL:List LV} {b K L:Nat} {l:List In} {pc:Int} {C:Nat->VL} (w:World) (h:OneS X Z w0 LL b K L l pc Y C w) (hK:K<=1000000000) (hL:L<=100000) :
  Calls prog 171 #[.pointer (some (a_ b))] w fun e w'=>(∃ f n:Int,e=.returned (.tuple #[i_ f,i_ n]))/\Ms X Z w0 LL b K (L+1) l pc Y C w w' (fun j=>j≠72/\j≠81):=by
 have HS:=q_ h;clear h;go_enter func171,ntmps171;go_wp2_with fail;refine (root_m w HS.o hK).mono ?_;rintro e W1 ⟨rfl,Y1,C1,h1,u1,q1,j1⟩;have H1:=q_ h1;have U1:=q_ u1;have Q1:=q_ q1;have J1:=q_ j1;obtain ⟨bk,A4,_⟩:=h1.fr.tru (i:=0) rfl (j:=81) rfl rfl;clear h1 u1 q1 j1;cases bk
 case true =>
  go_wp2;refine bodyPost_ret (results_tmp2 (by rfl) _ _ _) rfl ?_;exact ⟨⟨_,_,rfl⟩,Y1,C1,H1.o.raise (Nat.le_succ L),U1.o,Q1.o,fun j hj=>J1.o j hj.2⟩
 go_wp2_with fail;refine (dy_ W1 H1.o hK hL 1 0).mono ?_;rintro e W2 ⟨⟨v,rfl⟩,Y2,C2,h2,u2,q2,j2⟩;obtain ⟨V,hV,A3,A9,V0⟩:=af_ W2 [.bool v.ref,i_ v.n] 38;have H2:=q_ (h2.call A3);have U2:=q_ ((U1.o.trans u2).trans (Up.of_below A3));have Q2:=h_ (∀ q,q≠b->q<w->C2 q=C q) (fun q hq A1=>(q2 q hq (lt_ A1 U1.o.kp.size)).trans (Q1.o q hq A1));have J2:=h_ (∀ j,(j≠72/\j≠81)->(C2 b)[j]?=(C b)[j]?) (fun j hj=>(j2 j hj).trans (J1.o j hj.2));have Ad:b<W2:=h2.fr.blt (i:=0) rfl;obtain ⟨HA,hn,hc,Ac,hH,_⟩:=H2.o.fr.slc (i:=0) rfl (j:=36) (e:=objT) rfl rfl;have HH:=h_ (SlT V Y2 K objT HA hn hc) hH;have A6:=q_ V0;have v0:=V0.2.1 0 _ rfl;have v1:=V0.2.1 1 _ rfl;have Ag:(W2:Nat)<V:=by omega
 have Aa:b<V:=by omega
 have KH:=h_ (∀ w',Below V V w'->SlT w' Y2 K objT HA hn hc) (fun w' hb=>HH.o.go (.of_below hb) (l_));have A5:=h_ (Below V V V.drew) (Below.drew (b_));have A2:=h_ (Below V V (V.drew.alloc (.cells #[i_ 0,.slice none 0 0] 90))) ((Below.drew (b_)).alloc (l_) _);have HZ:=h_ (Bx (V.drew.alloc (.cells #[i_ 0,.slice none 0 0] 90)) V [i_ 0,.slice none 0 0]) (Bx.new V.drew [i_ 0,.slice none 0 0] 90);clear h2 u2 q2 j2 A3 A9 V0 hH A4;go_upto_region 5 with fail;rw [←hV];clear hV;go_cut [5,6] (fun p ok wx=>∃ (q:Nat) (oi:Int) (oA:OA) (on oc:Nat) (ob:Bool),p=.pointer (some (a_ q))/\ok=.bool ob/\V<=q/\Hid (Bx wx q [i_ oi,.slice oA on oc])/\Hid (Below V V wx))
 case first =>
  go_region_law (first
   | (go_simp;go_at_call 133;refine (Get_t Y2 K HA hn hc v.n V.drew (KH.o _ A5.o) o_).mono ?_;rintro e S ⟨⟨oi,oA,on,oc,ob,rfl⟩,hS⟩;have BS:=h_ (Below V V S) (A5.o.trans hS);clear hS)
   | (go_simp;go_at_call 133;refine (Get_t Y2 K HA hn hc v.n (V.drew.alloc (.cells #[.int .i64 0,.slice none 0 0] 90)) (KH.o _ A2.o) o_).mono ?_;rintro e S ⟨⟨oi,oA,on,oc,ob,rfl⟩,hS⟩;have BS:=h_ (Below V V S) (A2.o.trans (hS.mono A2.o.size));have BZ:=q_ (HZ.o.below hS);have z0:=BZ.o.2.1 0 _ rfl;have z1:=BZ.o.2.1 1 _ rfl;have zf:=BZ.o.2.2;clear hS))
  all_goals
   go_wp2_with fail;go_meet;first
    | exact ⟨_,oi,oA,on,oc,ob,rfl,rfl,BS.o.size,q_ (Bx.new S [.int .i64 oi,.slice oA on oc] _),q_ (BS.o.alloc BS.o.size _)⟩
    | exact ⟨V,oi,oA,on,oc,ob,rfl,rfl,l_,q_ ((BZ.o.set 0 _).set 1 _),q_ ((BS.o.setCell (l_) _).setCell (l_) _)⟩
 obtain ⟨q,oi,oA,on,oc,ob,rfl,rfl,hq,hB,A0⟩:=hcut;have H3:=q_ (H2.o.call A0.o);have y0:=(A6.o.below A0.o).2.1 0 _ rfl;have y1:=(A6.o.below A0.o).2.1 1 _ rfl;have b0:=hB.o.2.1 0 _ rfl;have b1:=hB.o.2.1 1 _ rfl;obtain ⟨bk,A4,A7⟩:=H3.o.fr.tru (i:=0) rfl (j:=81) rfl rfl;have A8:=q_ A7;have fb:=H3.o.fr.fz (i:=0) rfl;have Ae:q≠b:=by omega
 have Af:W2≠b:=by omega
 clear A7 v0 v1 Ac;obtain ⟨vr,vn⟩:=v;go_upto_region 6 with fail;go_cut [] (fun wx=>∃ nb:Bool,Hid (bk=true->nb=true)/\wx=wc.setCell (f_ b 81) (.bool nb))
 case first =>
  cases bk <;> cases ob <;> cases vr
  all_goals
   go_wp2_with fail;all_goals
    go_meet;first
     | exact ⟨_,q_ (fun _=>rfl),rfl⟩
     | exact ⟨_,q_ (fun h=>nomatch h),rfl⟩
 obtain ⟨nb,Ab,rfl⟩:=hcut;have M:=q_ (H3.o.set81 A8.o nb Ab.o);clear A4 fb;go_wp2_with fail;go_quiet (fail);go_wp2;refine bodyPost_ret (results_tmp2 (by rfl) _ _ _) rfl ?_;obtain ⟨Y4,C4,h4,u4,q4,j4⟩:=M.o;exact ⟨⟨_,_,rfl⟩,Y4,C4,h4.call (below_drewN (b_) _),((U2.o.trans (.of_below A0.o)).trans u4).drewN _,fun q hq A1=>(q4 q hq (lt_ A1 (U2.o.trans (.of_below A0.o)).kp.size)).trans (Q2.o q hq A1),fun j hj=>(j4 j hj.2).trans (J2.o j hj)⟩
def Pr (b:Nat) (J:NP) (w:World) (Y:NP) (C:Nat->VL) (w':World) (Y':NP) (C':Nat->VL):Prop:=Up w Y w' Y'/\(∀ q,q≠b->q<w->C' q=C q)/\∀ j,J j->(C' b)[j]?=(C b)[j]?
def Lc (w:World) (Y:NP) (q:Nat) (cs:VL):Prop:=Bx w q cs/\¬Y q
section
variable {X Z Y Y' Y2 J J':NP} {w0 w w' w2:World} {LL:List LV} {b q K L:Nat} {l:List In} {pc:Int} {C C' C2:Nat->VL} {cs:VL}
theorem Pr.refl (b:Nat) (J:NP) (w:World) (Y:NP) (C:Nat->VL):Pr b J w Y C w Y C:=⟨Up.refl _ _,fun _ _ _=>rfl,fun _ _=>rfl⟩
theorem Pr.trans (h:Pr b J w Y C w' Y' C') (h2:Pr b J' w' Y' C' w2 Y2 C2) (hJ:∀ j,J j->J' j):Pr b J w Y C w2 Y2 C2 :=
 ⟨h.1.trans h2.1,fun q hq A0=>(h2.2.1 q hq (lt_ A0 h.1.kp.size)).trans (h.2.1 q hq A0),fun j hj=>(h2.2.2 j (hJ j hj)).trans (h.2.2 j hj)⟩
theorem Pr.below (h:Pr b J w Y C w' Y' C') (hb:Below w' w' w2):Pr b J w Y C w2 Y' C':=⟨h.1.trans (.of_below hb),h.2.1,h.2.2⟩
theorem Pr.ms (h:Pr b J w Y C w' Y' C') (hs:OneS X Z w0 LL b K L l pc Y' C' w'):Ms X Z w0 LL b K L l pc Y C w w' J:=⟨Y',C',hs,h.1,h.2.1,h.2.2⟩
theorem Lc.up (h:Lc w Y q cs) (u:Up w Y w' Y'):Lc w' Y' q cs:=⟨h.1.kp u.kp h.2,u.no q h.1.1 h.2⟩
theorem Lc.cell {j:Nat} {v:Value} (h:Lc w Y q cs) (hv:cs[j]?=some v):w.cell? (f_ q j)=some v:=h.1.2.1 j v hv
theorem mv_kind {l:List In} {pc kd:Int} {vs:VL} (h:vs[38]?=some (i_ kd)) (hk:1<=kd/\kd<=3):Mv l pc vs:=fun k p h1 _ _=>by
 rw [h] at h1;injection h1 with h1;injection h1 with _ h1;exact .inl o_
theorem mv_mark {l:List In} {pc p0:Int} {vs:VL} (h:vs[39]?=some (i_ p0)) (hm:opAt l p0=21):Mv l pc vs:=fun k p _ h2 _=>by
 rw [h] at h2;injection h2 with h2;injection h2 with _ h2;subst h2;exact .inr (.inr hm)
theorem cf_ {l:List In} {pc:Int} {vs us:VL} (hm:Mv l pc vs) (e38:us[38]?=vs[38]?) (e39:us[39]?=vs[39]?) (e81:us[81]?=vs[81]?):Mv l pc us:=fun k p h1 h2 h3=>by
 rw [e38] at h1;rw [e39] at h2;rw [e81] at h3;exact hm k p h1 h2 h3
theorem OneS.set {t:CT} {v:Value} {j:Nat} (h:OneS X Z w0 LL b K L l pc Y C w) (hj:oneT[j]?=some t) (ho:dg_ j=none) (h4:4<=j) (hv:VT w Y (oneK K L j) t v) (hm:Mv l pc (C b)->Mv l pc ((C b).set j v)) :
  OneS X Z w0 LL b K L l pc Y (upd C b ((C b).set j v)) (w.setCell (f_ b j) v)/\Pr b (fun i=>i≠j) w Y C (w.setCell (f_ b j) v) Y (upd C b ((C b).set j v)):=by
 obtain ⟨f,u⟩:=h.fr.set (i:=0) (j:=j) (t:=t) (v:=v) rfl hj ho hv;refine ⟨h.go f u (fun i hi=>?_) (fun h=>?_),u,fun q hq _=>ad_ _ _ hq,fun i hi=>?_⟩
 ·rw [upd_same,gs_,if_neg o_]
 ·rw [upd_same];exact hm h
 rw [upd_same,gs_,if_neg (fun e=>hi e.symm)]
theorem OneS.setCpu {vs:VL} (h:OneS X Z w0 LL b K L l pc Y C w) (hv:VTs w Y 0 cpuT vs) (hm:Mv l pc (C b)->Mv l pc (splice (C b) 39 vs)) :
  OneS X Z w0 LL b K L l pc Y (upd C b (splice (C b) 39 vs)) (w.setCells b 39 vs)/\Pr b (fun i=>i<39∨72<=i) w Y C (w.setCells b 39 vs) Y (upd C b (splice (C b) 39 vs)):=by
 obtain ⟨f,u⟩:=h.fr.part (i:=0) (o:=39) (N:=0) (us:=cpuT) (vs:=vs) rfl rfl d_ hv (fun j h1 h2=>⟨Nat.zero_le _,by
  have:j<72:=h2
  show dg_ j=none
  unfold dg_
  rw [if_neg o_]⟩)
 have hl:(C b).length=82:=h.fr.len (i:=0) rfl;have A1:vs.length=33:=hv.1;have out:∀ i,i<39∨72<=i->(splice (C b) 39 vs)[i]?=(C b)[i]?:=fun i hi=>by
  unfold splice;have A0:((C b).take 39).length=39:=by rw [List.length_take,hl];decide
  rcases hi with hi | hi
  ·rw [List.getElem?_append_left (by rw [A0];exact hi),List.getElem?_take,if_pos hi]
  rw [List.getElem?_append_right (by rw [A0];omega),A0,List.getElem?_append_right (by rw [A1];omega),A1,List.getElem?_drop]
  congr 1;omega
 refine ⟨h.go f u (fun i hi=>?_) (fun h=>?_),u,fun q hq _=>ad_ _ _ hq,fun i hi=>?_⟩
 ·rw [upd_same];exact out i o_
 ·rw [upd_same];exact hm h
 rw [upd_same];exact out i hi
theorem splice_pc {vs cs:VL} {p:Int} (hl:cs.length=82) (h:vs[0]?=some (i_ p)):(splice cs 39 vs)[39]?=some (i_ p):=by
 unfold splice;have A0:(cs.take 39).length=39:=by rw [List.length_take,hl];decide
 rw [List.getElem?_append_right (by rw [A0];omega),A0,List.getElem?_append_left (by have:=(e_ h).1;omega)];exact h
theorem vts_cpu0 {X:NP} {w:World} {K:Nat} {vs:VL} (h:VTs w X K cpuT vs):VTs w X 0 cpuT vs:=by
 have A0:∀ t ∈ cpuT,t=CT.num∨t=CT.tru:=by simp [cpuT,regsT]
 refine ⟨h.1,fun j t hj=>?_⟩;obtain ⟨u,hu,hv⟩:=h.2 j t hj;rcases A0 t (List.mem_of_getElem? hj) with rfl | rfl
 ·obtain ⟨n,rfl⟩:=hv.int;exact ⟨_,hu,.num _⟩
 obtain ⟨n,rfl⟩:=hv.bool;exact ⟨_,hu,.tru _⟩
def row33 (w:World) (b o:Nat):Array Value:=((List.range 33).map fun j=>(w.cell? ⟨b,o+j,none⟩).getD undef).toArray
def row33V (w:World):Value->Array Value
 | .pointer (some ⟨b,o,none⟩)=>row33 w b o
 | _=>#[]
def de_ (w:World) (v:Value):Prop:=∃ b o,∃ vs:VL,v=.pointer (some (f_ b o))/\vs.length=33/\w.rangeAt b o vs
theorem row33_at {w:World} {b o:Nat} {vs:VL} (hl:vs.length=33) (h:w.rangeAt b o vs):row33 w b o=vs.toArray:=by
 unfold row33
 congr 1
 apply List.ext_getElem?;intro j;by_cases hj:j<33
 ·have hc:vs[j]?=some (vs[j]'o_):=ge_ o_;rw [List.getElem?_map,List.getElem?_range hj,hc,Option.map_some,h j _ hc];rfl
 rw [List.getElem?_eq_none (by simp;omega),List.getElem?_eq_none o_]
theorem exec33 (ρ:Operand->Value) (x:Operand) (d:Option Nat) (ty:TypeId) (pos:String) (af:Array Edge) (gd:Option (Nat × Bool)) (w:World) (h:de_ w (ρ x)) :
  Sem.run prog (execOp ρ { dst:=d,op:=.load 62 x,type:=ty,pos:=pos,after:=af,guard:=gd }) w=.ok (.value (.agg (row33V w (ρ x)))) w:=by
 obtain ⟨b,o,vs,hv,hl,ht⟩:=h;have h1:=run_loadAt_mid (P:=prog) w b o _ vs _ ht underlying62 rfl (by rw [hl];kernel_rfl);unfold execOp;simp only [hv,Sem.run_bind,h1,Result.andThen_ok,Sem.run_pure,row33V,row33_at hl ht]
theorem cpu_row {cs ds:VL} (h:Bx w b ds) (hl:ds.length=82) (e:∀ j,3<=j->j<36->ds[j]?=cs[j]?):de_ w (.pointer (some (f_ b 3)))/\row33V w (.pointer (some (f_ b 3)))=((cs.drop 3).take 33).toArray:=by
 have hr:=h.range 3 33;have e2:(ds.drop 3).take 33=(cs.drop 3).take 33:=by
  apply List.ext_getElem?;intro j;rw [List.getElem?_take,List.getElem?_take,List.getElem?_drop,List.getElem?_drop];split
  ·exact e (3+j) o_ o_
  rfl
 have A0:((ds.drop 3).take 33).length=33:=by rw [List.length_take,List.length_drop,hl];decide
 refine ⟨⟨b,3,_,rfl,A0,hr⟩,?_⟩;show row33 w b 3=_
 rw [row33_at A0 hr,e2]
end
end Go.Proofs.YtfolidlmgfhkiaaGreat
