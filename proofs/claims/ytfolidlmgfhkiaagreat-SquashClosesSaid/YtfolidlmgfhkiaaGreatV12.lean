/- Lemmas on functions of the program, under the conditions that each states. -/
import Derived.Test.YtfolidlmgfhkiaaGreatV11
import Derived.Test.YtfolidlmgfhkiaaGreatV04
set_option linter.unusedVariables false
set_option linter.unusedSimpArgs false
set_option maxRecDepth 100000
set_option maxHeartbeats 8000000
namespace Go.Proofs.YtfolidlmgfhkiaaGreat
open Go.RowKit Go.Proofs.Tryz
theorem Beginning_any (A:OA) (n c:Nat) (v s pc:Int) (l:List In) (w:World) (hs:Sl w w 5 In.cells A n l) (hn:n<=9000000000000) :
  Calls prog 79 #[.agg #[.slice A n c,i_ v,i_ s],i_ pc] w fun e w'=>RB e/\Below w w w':=by
 obtain ⟨W,hW,A2,A3,B0⟩:=af_ w [.slice A n c,i_ v,i_ s] 26;have KC:=h_ (∀ w',Below W W w'->(w'.cell? (a_ w)=some (.slice A n c)/\w'.cell? (f_ w 1)=some (i_ v)/\w'.cell? (f_ w 2)=some (i_ s))/\Below w w w'/\Sl w' w' 5 In.cells A n l) (fun w' hb =>
  ⟨⟨(B0.below hb).2.1 0 _ rfl,(B0.below hb).2.1 1 _ rfl,(B0.below hb).2.1 2 _ rfl⟩,A2.trans (hb.mono A2.size),hs.up (A2.trans (hb.mono A2.size))⟩)
 obtain ⟨⟨c0,c1,c2⟩,A0,A1⟩:=KC.o W (b_);have A0:=q_ A0;have A1:=q_ A1;have HY:=q_ (Below.refl W W);clear hs B0 A2 A3;go_enter func79,ntmps79;go_upto_region 1 with fail;rw [<-hW];clear hW;go_wp2_with (go_at_call 128;refine (op_any A n c v s _ l _ A1.o hn).mono ?_;rintro e Y ⟨⟨q,rfl,hq⟩,hY⟩;have HY:=q_ (HY.o.trans (hY.mono HY.o.size));obtain ⟨⟨c0,c1,c2⟩,A0,A1⟩:=KC.o Y HY.o;have A0:=q_ A0;have A1:=q_ A1);all_goals
  go_ret;exact ⟨⟨_,rfl⟩,A0.o⟩
def RAsk (l:List In) (pc:Int) (e:Ending):Prop:=∃ b,e=.returned (.bool b)/\(b=true->Good l/\opAt l pc=20)
theorem Asks_any (A:OA) (n c:Nat) (v s pc:Int) (l:List In) (w:World) (hs:Sl w w 5 In.cells A n l) (hn:n<=9000000000000) :
  Calls prog 74 #[.agg #[.slice A n c,i_ v,i_ s],i_ pc] w fun e w'=>RAsk l pc e/\Below w w w':=by
 obtain ⟨W,hW,A2,A3,B0⟩:=af_ w [.slice A n c,i_ v,i_ s] 26;have KC:=h_ (∀ w',Below W W w'->(w'.cell? (a_ w)=some (.slice A n c)/\w'.cell? (f_ w 1)=some (i_ v)/\w'.cell? (f_ w 2)=some (i_ s))/\Below w w w'/\Sl w' w' 5 In.cells A n l) (fun w' hb =>
  ⟨⟨(B0.below hb).2.1 0 _ rfl,(B0.below hb).2.1 1 _ rfl,(B0.below hb).2.1 2 _ rfl⟩,A2.trans (hb.mono A2.size),hs.up (A2.trans (hb.mono A2.size))⟩)
 obtain ⟨⟨c0,c1,c2⟩,A1,A0⟩:=KC.o W (b_);have A1:=q_ A1;have A0:=q_ A0;clear hs B0 A2 A3;go_enter func74,ntmps74;go_upto_region 1 with fail;rw [<-hW];clear hW;go_wp2_with fail;refine (Valid_any A n c v s l W A0.o hn).mono ?_;rintro e Y ⟨⟨b,rfl,hg⟩,hY⟩;obtain ⟨⟨c0,c1,c2⟩,A1,A0⟩:=KC.o Y hY;have A1:=q_ A1;have A0:=q_ A0;have HY:=q_ hY;have HG:=q_ hg;clear hY hg;cases b with
 | false =>
  go_wp2;go_ret;exact ⟨⟨false,rfl,fun h=>by cases h⟩,A1.o⟩
 | true =>
  go_wp2_with (go_at_call 128;refine (op_any A n c v s _ l _ A0.o hn).mono ?_;rintro e Z ⟨⟨q,rfl,hq⟩,hZ⟩;have HZ:=q_ (HY.o.trans (hZ.mono HY.o.size)));go_ret;exact ⟨⟨_,rfl,fun h=>⟨(HG.o (by first | rfl | trivial)).1,hq.o.trans yp_⟩⟩,(KC.o _ HZ.o).2.1⟩
theorem isMark_any (A:OA) (n c:Nat) (v s pc:Int) (l:List In) (w:World) (hs:Sl w w 5 In.cells A n l) (hn:n<=9000000000000) :
  Calls prog 172 #[.agg #[.slice A n c,i_ v,i_ s],i_ pc] w fun e w'=>e=.returned (.bool (opAt l pc == 21))/\Below w w w':=by
 have HL:=q_ hs.len;by_cases h0:pc<0
 ·have H:=h_ ((opAt l pc == 21)=false) (by unfold opAt;rw [if_neg o_];rfl);have h1:¬0<=pc:=by omega
  go_enter func172,ntmps172;go_wp2;go_ret;exact ⟨by rw [H.o];rfl,(bel (b_))⟩
 obtain ⟨k,rfl⟩:∃ k:Nat,pc=k:=⟨pc.toNat,o_⟩;have HK:=q_ (opAt_nat l k);by_cases h1:k<n
 ·obtain ⟨ab,ao,rfl,A1,A0⟩:=hs.at_ o_;obtain ⟨x,hx⟩:∃ x,l[k]?=some x:=⟨_,ge_ (by rw [HL.o];exact h1)⟩;have HX:=q_ hx;have c0:w.cell? ⟨ab,ao+k*5,none⟩=some (i_ x.op):=A0 k x hx 0 _ rfl;have h3:(k:Int)<(n:Int):=by omega
  clear A0 hx h0;exact tq_
 have h2:¬(k:Int)<(n:Int):=by omega
 have HX:=h_ (l[k]?=none) (List.getElem?_eq_none xo_);exact tq_
theorem infoInt:(prog.info? 3).map (fun i=>(i.zero,i.size,i.bytes))=some (some (i_ 0),1,8):=by kernel_rfl
def RDiv (X:NP) (K:Nat) (e:Ending) (w:World):Prop:=∃ (A:OA) (n c:Nat),e=.returned (.agg #[.slice A n c])/\Hid (SlT w X K [.num] A n c)
theorem Every_t (X:NP) (K:Nat) (A:OA) (n c:Nat) (v s:Int) (l:List In) (w:World) (hs:Sl w w 5 In.cells A n l) (hn:n<=9000000000000) (hK:2049<=K) (hX:∀ k,X k->k<w) :
  Calls prog 70 #[.agg #[.slice A n c,i_ v,i_ s]] w fun e w'=>RDiv X K e w'/\Below w w w':=by
 obtain ⟨i0,Am,An,Ao,Ap⟩:=info_parts infoInt;obtain ⟨W,hW,A4,Al,B0,B1,B2⟩:=ei_ w [.slice A n c,i_ v,i_ s] 26 [.slice none 0 0] 32 [.slice none 0 0] 32;have HS:=q_ (hs.up A4);have HW:=q_ A4;have Ad:=q_ B0;have Ae:=q_ B1;have Af:=q_ B2;have A3:=h_ (∀ k,(X k\/(w<=k/\k<w+3))->k<W) (fun k hk=>by rcases hk with hk | hk;have:=hX k hk;omega;omega);have c0:=B0.2.1 0 _ rfl;have c1:=B0.2.1 1 _ rfl;have c2:=B0.2.1 2 _ rfl;have Ac:(w:Nat)+3=W:=by omega
 have A0:=q_ Ac;have Ak:=q_ hX;clear hs hX B0 B1 B2 A4 Al Ac;go_enter func70,ntmps70;go_upto_region 2 with fail;rw [<-hW];clear hW;go_wp2_with fail;refine (Valid_any A n c v s l W HS.o hn).mono ?_;rintro e Z ⟨⟨b,rfl,hb⟩,hZ⟩;have hsz:=hZ.size;have Aj:=q_ (Ad.o.below hZ);have A1:=q_ (Ae.o.below hZ);have A9:=q_ (Af.o.below hZ);have Aa:=q_ hZ;clear hZ c0 c1 c2;cases b
 ·have d0:=A9.o.2.1 0 _ rfl;have d1:=A1.o.2.1 0 _ rfl;have d2:=A1.o.2.2;go_wp2;refine retC results70 za_ underlying32 rfl k_ (cs:=[_]) (A1.o.set 0 _).whole rfl ?_;have A7:Below w w (Z.setCell (a_ (w+1)) (.slice none 0 0)):=(HW.o.trans (Aa.o.mono (by have:=A0.o;omega))).setCell z3_ _;exact ⟨⟨none,0,0,rfl,q_ ((OwT.nil _ w 3 [.num] X K).slT Ak.o o_)⟩,A7⟩
 have Aq:=(hb rfl).2;clear hb;have Ah:=h_ (Kp (fun k=>k=w+2) W Z) (.of_below Aa.o);go_upto_region 4 with fail;go_loopw [4] (fun i wr=>∃ (k:Nat) (B:OA) (d:Nat),k<=(s+1).toNat/\i=i_ k/\Hid (OwT wr W 3 [.num] (fun k=>X k\/(w<=k/\k<w+3)) K B k d)/\Hid (Bx wr w [.slice A n c,i_ v,i_ s])/\Hid (Bx wr (w+1) [.slice none 0 0])/\Hid (Bx wr (w+2) [.slice B k d])/\Hid (Kp (fun k=>k=w+2) W wr)) (fun i _=>(s+1).toNat - (intOf i).toNat)
 case atStart=>exact ⟨0,none,0,o_,rfl,q_ (OwT.nil _ _ _ _ _ _),Aj,A1,A9,Ah⟩
 obtain ⟨k,B,d,hk,rfl,hO,Ab,A2,A6,A8⟩:=hrel;have Ar:=A8.o.size;have c2:=Ab.o.2.1 2 _ rfl;have d0:=A6.o.2.1 0 _ rfl;by_cases hlt:(k:Int)<=s
 ·have d2:=A6.o.2.2;have HU:=h_ (∀ a:Int,SlT (wr.alloc (.cells #[i_ a] 3)) (Wi (fun k=>X k\/(w<=k/\k<w+3)) (Value.slice B k d).ownBlock) K [.num] (some (a_ wr)) 1 1) (fun a=>by
   refine SlT.lit1 (e:=[.num]) (VTs.cons (.num a) VTs.nil) _ (fun h=>?_) o_
   rcases h with h | h
   ·have:=A3.o _ h;omega
   obtain ⟨xs,ho,_⟩:=hO.o
   have:=(am_ ho h).2;omega)
  have Ai:=h_ (∀ o,OwT (wr.alloc o) W 3 [.num] (fun k=>X k\/(w<=k/\k<w+3)) K B k d) (fun o=>hO.o.below ((b_).alloc (l_) o));go_wp2_with (at_builtin;refine ao_ rfl _ _ 30 rfl W 3 i0 _ 8 [.num] (fun k=>X k\/(w<=k/\k<w+3)) K underlying30 Am An Ao Ap rfl d_ B k d zc_ (Ai.o _) _ 1 1 zc_ (HU.o _) (fun k hk=>by have:=A3.o k hk;simp;omega) m_ o_ zp_ ?_;intro A5 c5 w5 o5 g5 l5;have kq:Kp (fun g=>W<=g) wr w5:=((Kp.refl _ wr).alloc _).grown g5 (fun g hg=>.inl wo_);have x0:=q_ (Ab.o.kp kq x4_);have x1:=q_ (A2.o.kp kq x4_);have x2:=q_ (A6.o.kp kq x4_);have Ag:=h_ (Kp (fun k=>k=w+2) W w5) ((A8.o.alloc _).grown g5 (fun g hg=>.inr wo_));have O5:=q_ o5;have y0:=x2.o.2.1 0 _ rfl;have y1:=x2.o.2.2;clear o5 g5 l5 kq c2 d0 d2);go_roundw
  case rel=>exact ⟨k+1,A5,c5,o_,zb_,q_ (O5.o.kept (dt_ _ _ _) (fun g hg=>by injection hg with hg;subst hg;exact ⟨.inr ⟨y0_,ws_⟩,by have:=A0.o;show (w:Nat)+1+1<_;omega⟩)),q_ (x0.o.far xt_ _),q_ (x1.o.far wr_ _),q_ (x2.o.set 0 _),q_ (Ag.o.setCell (p:=(a_ (w+2))) (.inl rfl) _)⟩
  case measure=>exact me_
 have d1:=A2.o.2.1 0 _ rfl;have d2:=A2.o.2.2;go_wp2;refine retC results70 za_ underlying32 rfl k_ (cs:=[_]) (A2.o.set 0 _).whole rfl ?_;have A7:Below w w (wr.setCell (a_ (w+1)) (.slice B k d)):=(HW.o.trans (A8.o.below (B:=w) (by have:=A0.o;omega) (fun k hk h=>o_))).setCell z3_ _;exact ⟨⟨B,k,d,rfl,q_ (((hO.o.slT A3.o o_).up ((Kp.refl _ wr).setCell (p:=(a_ (w+1))) (.inl (.inr ⟨z3_,by show (w:Nat)+1<w+3;omega⟩)) _) (Nat.le_refl K)).kept (Kp.refl _ _) (fun k _ h h2=>h (.inl h2)) (Nat.le_refl K))⟩,A7⟩
def oneT:List CT:=[.sl aw_,.num,.num] ++ cpuT ++ [.sl objT,.num] ++ effT ++ [.tru]
def de_:Nat->Option TypeId:=fun j=>if j=72\/j=73 then some 87 else none
def oneK (K L:Nat):Nat->Nat:=fun j=>if 72<=j then L else K
def oneL (b K L:Nat):LV:=⟨b,oneK K L,oneT,de_⟩
theorem isz_38:(prog.info? 38).map (·.size)=some valT.length:=by kernel_rfl
def Mv (l:List In) (pc:Int) (vs:VL):Prop:=∀ kd p:Int,vs[38]?=some (i_ kd)->vs[39]?=some (i_ p)->vs[81]?=some (.bool false)->(1<=kd/\kd<=3)\/pc<p\/opAt l p=21
structure OneS (X Z:NP) (w0:World) (LL:List LV) (b K L:Nat) (l:List In) (pc:Int) (Y:NP) (C:Nat->VL) (w:World):Prop where
 fr:Fr X Z w0 (oneL b K L :: LL) Y C w
 code:∃ (A:OA) (n c:Nat) (v s:Int),(C b)[0]?=some (.slice A n c)/\(C b)[1]?=some (i_ v)/\(C b)[2]?=some (i_ s)/\Sl w w 5 In.cells A n l/\n<=2048
 pcs:(C b)[3]?=some (i_ pc)
 mv:Mv l pc (C b)
section
variable {X Z Y Y':NP} {w0 w w':World} {LL LL':List LV} {b K L L':Nat} {l:List In} {pc:Int} {C C':Nat->VL}
theorem Sl.go {α:Type} {sz n c:Nat} {cells:α->VL} {A:OA} {l:List α} {e:List CT} {K:Nat} (h:Sl w w sz cells A n l) (ht:SlT w Y K e A n c) (u:Up w Y w' Y'):Sl w' w' sz cells A n l:=by
 refine ⟨h.len,fun hn=>?_⟩;obtain ⟨ab,ao,e1,A0,hc⟩:=h.at_ hn;obtain ⟨g,o,e2,hg,hX,_⟩:=ht.at_ _ e1;injection e2 with e2 e3;subst e2;exact ⟨ab,ao,e1,lt_ A0 u.kp.size,fun i x hx j v hv=>(u.kp.cell A0 hX).trans (hc i x hx j v hv)⟩
theorem OneS.go (h:OneS X Z w0 LL b K L l pc Y C w) (f:Fr X Z w0 (oneL b K L' :: LL') Y' C' w') (u:Up w Y w' Y') (e:∀ j,j<4->(C' b)[j]?=(C b)[j]?) (hm:Mv l pc (C b)->Mv l pc (C' b)):OneS X Z w0 LL' b K L' l pc Y' C' w':=by
 obtain ⟨A,n,c,v,s,h0,h1,h2,h3,h4⟩:=h.code;obtain ⟨A',n',c',_,h6,h7⟩:=h.fr.slc (i:=0) rfl (j:=0) (e:=aw_) rfl rfl;rw [h0] at h7;injection h7 with h7;injection h7 with q1 q2 q3;subst q1 q2 q3;exact ⟨f,⟨A,n,c,v,s,(e 0 o_).trans h0,(e 1 o_).trans h1,(e 2 o_).trans h2,Sl.go h3 h6 u,h4⟩,(e 3 o_).trans h.pcs,hm h.mv⟩
theorem OneS.call (h:OneS X Z w0 LL b K L l pc Y C w) (hb:Below w w w'):OneS X Z w0 LL b K L l pc Y C w':=h.go (h.fr.call hb) (.of_below hb) (fun _ _=>rfl) (fun h=>h)
theorem one_up (b K:Nat) {L L':Nat} (hL:L<=L') (j:Nat):(oneL b K L).K j<=(oneL b K L').K j:=by
 show oneK K L j<=oneK K L' j
 unfold oneK;split <;> omega
theorem OneS.raise (h:OneS X Z w0 LL b K L l pc Y C w) (hL:L<=L'):OneS X Z w0 LL b K L' l pc Y C w:=h.go (h.fr.up1 rfl rfl rfl (one_up b K hL)) (Up.refl _ _) (fun _ _=>rfl) (fun h=>h)
end
def Ms (X Z:NP) (w0:World) (LL:List LV) (b K L':Nat) (l:List In) (pc:Int) (Y:NP) (C:Nat->VL) (w w':World) (J:NP):Prop:=∃ Y' C',OneS X Z w0 LL b K L' l pc Y' C' w'/\Up w Y w' Y'/\(∀ q,q≠b->q<w->C' q=C q)/\∀ j,J j->(C' b)[j]?=(C b)[j]?
theorem ea_ {X Z Y:NP} {w0:World} {LL:List LV} {b K L:Nat} {l:List In} {pc:Int} {C:Nat->VL} (w:World) (h:OneS X Z w0 LL b K L l pc Y C w) (hL:L<=100000) (id f:Int) (v:Val) :
  Calls prog 173 #[.pointer (some (a_ b)),i_ id,i_ f,.agg #[.bool v.ref,i_ v.n]] w fun e w'=>e=.returned (.tuple #[])/\Ms X Z w0 LL b K (L+1) l pc Y C w w' (fun j=>j≠73):=by
 obtain ⟨i0,z0,A6,A8,A7,A5,A9⟩:=ei_cell.hi;obtain ⟨A0,n0,c0,_,A3,A4,_,_⟩:=h.fr.own (i:=0) rfl (j:=73) (e:=ap_) (et:=87) rfl rfl;have HS:=q_ (h.raise (Nat.le_succ L));obtain ⟨W,Y1,C1,hW,Ab,u1,f1,c1,cO⟩:=HS.o.fr.add1 0 valT [.bool v.ref,i_ v.n] 38 (vtsval _ _);have F1:=q_ f1;have U1:=q_ u1;have Ac:=HS.o.fr.blt (i:=0) rfl;have x0:=f1.cell (i:=0) rfl (j:=0) (by rw [c1];rfl);have x1:=f1.cell (i:=0) rfl (j:=1) (by rw [c1];rfl);obtain ⟨A,n,c,Aa,hC,hn,hO,hY⟩:=f1.own (i:=1) rfl (j:=73) (e:=ap_) (et:=87) rfl rfl;have A2:=hC;rw [cO b o_,A3] at A2;injection A2 with A2;injection A2 with q1 q2 q3;subst q1 q2 q3;have Ad:n0<=L:=A4;have HC:=q_ hC;have HY:=q_ hY;have A1:=q_ cO;have HB:=h_ (Below W W (W.drew.alloc (.cells #[i_ id,i_ f,.bool v.ref,i_ v.n] 87))) ((Below.drew (b_)).alloc (l_) _);have HO:=h_ (OwT _ 0 87 ap_ Y1 (L+1) A0 n0 c0) (hO.below HB.o);have HU:=h_ (SlT (W.drew.alloc (.cells #[i_ id,i_ f,.bool v.ref,i_ v.n] 87)) (Wi Y1 (Value.slice A0 n0 c0).ownBlock) (L+1) ap_ (some (a_ W)) 1 1) ((SlT.lit1 (w:=W.drew) (e:=ap_) (dz_ id f v.ref v.n) _ (fun h=>Nat.lt_irrefl _ (F1.o.lt _ h)) o_).kept (Kp.refl _ _) (fun k _ h1 h2=>h2.elim h1 (fun h3=>h1 (hY k h3))) (l_));have HG:=h_ (∀ w',(W.drew.alloc (.cells #[i_ id,i_ f,.bool v.ref,i_ v.n] 87)).grownBy w' (Value.slice A0 n0 c0).ownBlock->Bx w' b (C1 b)) (fun w' g'=>(F1.o.call HB.o).cv_ (i:=1) (j:=73) (t:=.sl ap_) (et:=87) rfl rfl rfl HC.o g');clear h f1 u1 c1 hO hC hY cO hn A4 A3;go_enter func173,ntmps173;go_upto_region 1 with fail;rw [<-hW];clear hW;go_region_law (refine br_ rfl (.tmp 13) (.tmp 18) 54 rfl 0 87 i0 _ 32 ap_ Y1 (L+1) underlying54 A6 A8 A7 A5 A9 d_ A0 n0 c0 v_ HO.o (some (a_ W)) 1 1 (by simp [Act.eval,Act.put] <;> omega) HU.o (fun k hk=>lt_ (F1.o.lt k hk) HB.o.size) m_ o_ (Nat.zero_le _) ?_;intro A' c' w' o' g' l';have O':=q_ o';have G':=q_ g';have L':=q_ l';have BX:=HG.o w' g';have Af:=BX.2.1 73 _ HC.o;have yf:=BX.2.2;clear o' g' l' BX Aa x0 x1);all_goals
  obtain ⟨Y2,f2,u2⟩:=(F1.o.call HB.o).append (i:=1) (j:=73) rfl (e:=ap_) rfl (et:=87) rfl HC.o O'.out (show n0+1<=L+1 by omega) G'.out L'.out;go_wp2;refine end0 za_ rfl ?_;refine ⟨rfl,Y2,_,(HS.o.go (LL':=LL) f2.tail ((U1.o.trans (.of_below HB.o)).trans u2) (fun j hj=>?_) (fun hm kd p h1 h2 h3=>?_)),(U1.o.trans (.of_below HB.o)).trans u2,fun q hq Ae=>?_,fun j hj=>?_⟩
  ·rw [upd_same,gs_,if_neg o_,A1.o b o_]
  ·rw [upd_same,gs_,if_neg o_,A1.o b o_] at h1 h2 h3;exact hm kd p h1 h2 h3
  ·rw [ad_ _ _ hq,A1.o q o_]
  rw [upd_same,gs_,if_neg o_,A1.o b o_]
theorem delta_t (X:NP) (K:Nat) (vs:VL) (id f:Int) (w:World) (ht:VTs w X K ae_ vs) (hK:K<=4398046510976) :
  Calls prog 140 #[.agg vs.toArray,i_ id,i_ f] w fun e w'=>(∃ n,n<=K/\(∃ A c,vs[40]?=some (.slice A n c))/\RIdx n e)/\Below w w w':=by
 obtain ⟨A,n,c,hf,h⟩:=ht.slc (j:=40) (e:=bj_) rfl;obtain ⟨W,hW,A0,A3,B0⟩:=af_ w vs 65;have d0:=B0.2.1 40 _ hf;have HF:=h_ (n<=K/\(∃ A c,vs[40]?=some (.slice A n c))) (⟨h.le,A,c,hf⟩);have H:=q_ (h.up (Kp.of_below A0) (Nat.le_refl K));have hn:n<=4398046510976:=Nat.le_trans h.le hK;have HW:=q_ A0;clear h hf ht A0 A3 B0;go_enter func140,ntmps140;go_upto_region 1 with fail;rw [<-hW];clear hW;go_upto_region 2 with fail;go_loopw [12] (fun i wr=>∃ k:Nat,k<=n/\i=i_ k/\Below W W wr) (fun i _=>n - (intOf i).toNat)
 case atStart=>exact ⟨0,o_,rfl,b_⟩
 obtain ⟨k,hk,rfl,hb⟩:=hrel;have A4:=hb.size;by_cases hlt:k<n
 ·have A1:(k:Int)<(n:Int):=by omega
  obtain ⟨g,o,rfl,hg,x,hx⟩:=H.o.delta_at hlt;obtain ⟨c0,c1,c2,c3,c4⟩:=hx wr hb;have HB:=q_ hb;have A2:=q_ (HW.o.trans (hb.mono HW.o.size));have A5:=A2.o.size;have HR:=h_ (RIdx n (.returned (i_ (k:Int)))) (⟨_,rfl,q_ (.inr ⟨k,hlt,rfl⟩)⟩);clear hx hb;go_wp2;all_goals first
   | (go_ret;exact ⟨⟨n,HF.o.1,HF.o.2,HR.o⟩,(bel A2.o)⟩)
   | (go_roundw
      case rel=>exact ⟨k+1,o_,zb_,(bel HB.o)⟩
      case measure=>exact me_)
 have A1:¬(k:Int)<(n:Int):=by omega
 exact tb_
theorem own_t (X:NP) (K:Nat) (vs:VL) (id:Int) (w:World) (ht:VTs w X K ae_ vs) (hK:K<=4398046510976) :
  Calls prog 139 #[.agg vs.toArray,i_ id] w fun e w'=>(∃ n,n<=K/\(∃ A c,vs[39]?=some (.slice A n c))/\RIdx n e)/\Below w w w':=by
 obtain ⟨A,n,c,hf,h⟩:=ht.slc (j:=39) (e:=objT) rfl;obtain ⟨W,hW,A0,A3,B0⟩:=af_ w vs 65;have d0:=B0.2.1 39 _ hf;have HF:=h_ (n<=K/\(∃ A c,vs[39]?=some (.slice A n c))) (⟨h.le,A,c,hf⟩);have H:=q_ (h.up (Kp.of_below A0) (Nat.le_refl K));have hn:n<=4398046510976:=Nat.le_trans h.le hK;have HW:=q_ A0;clear h hf ht A0 A3 B0;go_enter func139,ntmps139;go_upto_region 1 with fail;rw [<-hW];clear hW;go_upto_region 2 with fail;go_loopw [10] (fun i wr=>∃ k:Nat,k<=n/\i=i_ k/\Below W W wr) (fun i _=>n - (intOf i).toNat)
 case atStart=>exact ⟨0,o_,rfl,b_⟩
 obtain ⟨k,hk,rfl,hb⟩:=hrel;have A6:=hb.size;by_cases hlt:k<n
 ·have A1:(k:Int)<(n:Int):=by omega
  obtain ⟨g,o,rfl,hg,x,A4,A5,hx⟩:=H.o.obj_at hlt;obtain ⟨c0,c1⟩:=hx wr hb;have HB:=q_ hb;have A2:=q_ (HW.o.trans (hb.mono HW.o.size));have A7:=A2.o.size;have HR:=h_ (RIdx n (.returned (i_ (k:Int)))) (⟨_,rfl,q_ (.inr ⟨k,hlt,rfl⟩)⟩);clear hx hb;go_wp2;all_goals first
   | (go_ret;exact ⟨⟨n,HF.o.1,HF.o.2,HR.o⟩,(bel A2.o)⟩)
   | (go_roundw
      case rel=>exact ⟨k+1,o_,zb_,(bel HB.o)⟩
      case measure=>exact me_)
 have A1:¬(k:Int)<(n:Int):=by omega
 exact tb_
theorem Active_t (X:NP) (K:Nat) (A:OA) (n c:Nat) (s:Int) (w:World) (h:SlT w X K [.num] A n c) (hK:K<=4398046510976) :
  Calls prog 89 #[.agg #[.slice A n c],i_ s] w fun e w'=>RB e/\Below w w w':=by
 obtain ⟨W,hW,A0,A3,B0⟩:=af_ w [.slice A n c] 32;have d0:=B0.2.1 0 _ rfl;have H:=q_ (h.up (Kp.of_below A0) (Nat.le_refl K));have hn:n<=4398046510976:=Nat.le_trans h.le hK;have HW:=q_ A0;clear h A0 A3 B0;go_enter func89,ntmps89;go_upto_region 1 with fail;rw [<-hW];clear hW;go_upto_region 2 with fail;go_loopw [10] (fun i wr=>∃ k:Nat,k<=n/\i=i_ k/\Hid (wr=W)) (fun i _=>n - (intOf i).toNat)
 case atStart=>exact ⟨0,o_,rfl,q_ rfl⟩
 obtain ⟨k,hk,rfl,A2⟩:=hrel;have hw:=A2.o.symm;subst hw;clear A2;by_cases hlt:k<n
 ·have A1:(k:Int)<(n:Int):=by omega
  obtain ⟨g,o,rfl,hg,x,hx⟩:=H.o.num_at hlt;have c0:=hx W (b_);clear hx;go_wp2;all_goals first
   | (go_ret;exact ⟨⟨_,rfl⟩,HW.o⟩)
   | (go_roundw
      case rel=>exact ⟨k+1,o_,zb_,q_ ww_⟩
      case measure=>exact me_)
 have A1:¬(k:Int)<(n:Int):=by omega
 go_wp2;go_ret;exact ⟨⟨_,rfl⟩,HW.o⟩
theorem Valid16_t (X:NP) (K:Nat) (A:OA) (n c:Nat) (v s:Int) (l:List In) (D:OA) (m d:Nat) (w:World) (hs:Sl w w 5 In.cells A n l) (hn:n<=9000000000000) (h:SlT w X K [.num] D m d) (hK:K<=4398046510976) :
  Calls prog 85 #[.agg #[.slice A n c,i_ v,i_ s],.agg #[.slice D m d]] w fun e w'=>RVal l s e/\Below w w w':=by
 obtain ⟨W,hW,A0,A4,B0,B1⟩:=cb_ w [.slice A n c,i_ v,i_ s] 26 [.slice D m d] 32;have c0:=B0.2.1 0 _ rfl;have c1:=B0.2.1 1 _ rfl;have c2:=B0.2.1 2 _ rfl;have d0:=B1.2.1 0 _ rfl;have H:=q_ (h.up (Kp.of_below A0) (Nat.le_refl K));have HS:=q_ (hs.up A0);have hm:m<=4398046510976:=Nat.le_trans h.le hK;have HW:=q_ A0;clear h hs A0 A4 B0 B1;go_enter func85,ntmps85;go_upto_region 1 with fail;rw [<-hW];clear hW;go_upto_region 2 with fail;go_loopw [10] (fun i wr=>∃ k:Nat,k<=m/\i=i_ k/\Hid (wr=W)) (fun i _=>m - (intOf i).toNat)
 case atStart=>exact ⟨0,o_,rfl,q_ rfl⟩
 obtain ⟨k,hk,rfl,A3⟩:=hrel;have hw:=A3.o.symm;subst hw;clear A3;by_cases hlt:k<m
 ·have A2:(k:Int)<(m:Int):=by omega
  obtain ⟨g,o,rfl,hg,x,hx⟩:=H.o.num_at hlt;have e0:=hx W (b_);clear hx;rcases Nat.eq_zero_or_pos k with h0 | h0
  ·subst h0;rw [Nat.add_zero] at e0;go_wp2;all_goals first
    | (go_ret;exact ⟨rval_no l s,HW.o⟩)
    | (go_roundw
       case rel=>exact ⟨0+1,o_,zb_,q_ ww_⟩
       case measure=>exact me_)
  obtain ⟨j,rfl⟩:∃ j,k=j+1:=⟨k - 1,o_⟩;obtain ⟨g2,o2,A1,_,y,hy⟩:=H.o.num_at (k:=j) o_;injection A1 with A1;injection A1 with hA3 hA4;subst hA3 hA4;have e1:=hy W (b_);have A5:(0:Int)<((j+1:Nat):Int):=by omega
  have A7:IntKind.i64.wrap (((j+1:Nat):Int) - 1)=(j:Int):=by rw [IntKind.wrap_i64];omega
  have A6:(j:Int)<(m:Int):=by omega
  clear hy;go_wp2;all_goals first
   | (go_ret;exact ⟨rval_no l s,HW.o⟩)
   | (go_roundw
      case rel=>exact ⟨j+1+1,o_,zb_,q_ ww_⟩
      case measure=>exact me_)
 have A2:¬(k:Int)<(m:Int):=by omega
 go_wp2_with (go_at_call 72;refine (Valid_any A n c v s l _ HS.o hn).mono ?_;rintro e Y ⟨⟨b,rfl,hg⟩,hY⟩);go_ret;exact ⟨⟨b,rfl,hg⟩,HW.o.trans (hY.mono HW.o.size)⟩
end Go.Proofs.YtfolidlmgfhkiaaGreat
