/- Lemmas on functions of the program, under the conditions that each states. -/
import Derived.Test.YtfolidlmgfhkiaaGreatY14
import Derived.Test.YtfolidlmgfhkiaaGreatY09
set_option linter.unusedVariables false
set_option linter.unusedSimpArgs false
set_option maxRecDepth 100000
set_option maxHeartbeats 8000000
namespace Go.Proofs.YtfolidlmgfhkiaaGreat
open Go.RowKit Go.Proofs.Tryz
theorem Beginning_any (A:OA) (n c:Nat) (v s pc:Int) (l:List In) (w:World) (hs:Sl w w 5 In.cells A n l) (hn:n<=9000000000000) :
  Calls prog 79 #[.agg #[.slice A n c,i_ v,i_ s],i_ pc] w fun e w'=>RB e/\Below w w w':=by
 obtain ⟨W,hW,A2,A3,B0⟩:=ag_ w [.slice A n c,i_ v,i_ s] 26;have KC:=h_ (∀ w',Below W W w'->(w'.cell? (a_ w)=some (.slice A n c)/\w'.cell? (f_ w 1)=some (i_ v)/\w'.cell? (f_ w 2)=some (i_ s))/\Below w w w'/\Sl w' w' 5 In.cells A n l) (fun w' hb =>
  ⟨⟨(B0.below hb).2.1 0 _ rfl,(B0.below hb).2.1 1 _ rfl,(B0.below hb).2.1 2 _ rfl⟩,A2.trans (hb.mono A2.size),hs.up (A2.trans (hb.mono A2.size))⟩)
 obtain ⟨⟨c0,c1,c2⟩,A0,A1⟩:=KC.o W (b_);have A0:=q_ A0;have A1:=q_ A1;have HY:=q_ (Below.refl W W);clear hs B0 A2 A3;go_enter func79,ntmps79;go_upto_region 1 with fail;rw [<-hW];clear hW;go_wp2_with (go_at_call 128;refine (op_any A n c v s _ l _ A1.o hn).mono ?_;rintro e Y ⟨⟨q,rfl,hq⟩,hY⟩;have HY:=q_ (HY.o.trans (hY.mono HY.o.size));obtain ⟨⟨c0,c1,c2⟩,A0,A1⟩:=KC.o Y HY.o;have A0:=q_ A0;have A1:=q_ A1);all_goals
  go_ret;exact ⟨⟨_,rfl⟩,A0.o⟩
def RAsk (l:List In) (pc:Int) (e:Ending):Prop:=∃ b,e=.returned (.bool b)/\(b=true->Good l/\opAt l pc=20)
theorem Asks_any (A:OA) (n c:Nat) (v s pc:Int) (l:List In) (w:World) (hs:Sl w w 5 In.cells A n l) (hn:n<=9000000000000) :
  Calls prog 74 #[.agg #[.slice A n c,i_ v,i_ s],i_ pc] w fun e w'=>RAsk l pc e/\Below w w w':=by
 obtain ⟨W,hW,A2,A3,B0⟩:=ag_ w [.slice A n c,i_ v,i_ s] 26;have KC:=h_ (∀ w',Below W W w'->(w'.cell? (a_ w)=some (.slice A n c)/\w'.cell? (f_ w 1)=some (i_ v)/\w'.cell? (f_ w 2)=some (i_ s))/\Below w w w'/\Sl w' w' 5 In.cells A n l) (fun w' hb =>
  ⟨⟨(B0.below hb).2.1 0 _ rfl,(B0.below hb).2.1 1 _ rfl,(B0.below hb).2.1 2 _ rfl⟩,A2.trans (hb.mono A2.size),hs.up (A2.trans (hb.mono A2.size))⟩)
 obtain ⟨⟨c0,c1,c2⟩,A1,A0⟩:=KC.o W (b_);have A1:=q_ A1;have A0:=q_ A0;clear hs B0 A2 A3;go_enter func74,ntmps74;go_upto_region 1 with fail;rw [<-hW];clear hW;go_wp2_with fail;refine (Valid_any A n c v s l W A0.o hn).mono ?_;rintro e Y ⟨⟨b,rfl,hg⟩,hY⟩;obtain ⟨⟨c0,c1,c2⟩,A1,A0⟩:=KC.o Y hY;have A1:=q_ A1;have A0:=q_ A0;have HY:=q_ hY;have HG:=q_ hg;clear hY hg;cases b with
 | false =>
  go_wp2;go_ret;exact ⟨⟨false,rfl,fun h=>by cases h⟩,A1.o⟩
 | true =>
  go_wp2_with (go_at_call 128;refine (op_any A n c v s _ l _ A0.o hn).mono ?_;rintro e Z ⟨⟨q,rfl,hq⟩,hZ⟩;have HZ:=q_ (HY.o.trans (hZ.mono HY.o.size)));go_ret;exact ⟨⟨_,rfl,fun h=>⟨(HG.o (by first | rfl | trivial)).1,hq.o.trans x5_⟩⟩,(KC.o _ HZ.o).2.1⟩
theorem isMark_any (A:OA) (n c:Nat) (v s pc:Int) (l:List In) (w:World) (hs:Sl w w 5 In.cells A n l) (hn:n<=9000000000000) :
  Calls prog 172 #[.agg #[.slice A n c,i_ v,i_ s],i_ pc] w fun e w'=>e=.returned (.bool (opAt l pc == 21))/\Below w w w':=by
 have HL:=q_ hs.len;by_cases h0:pc<0
 ·have H:=h_ ((opAt l pc == 21)=false) (by unfold opAt;rw [if_neg o_];rfl);have h1:¬0<=pc:=by omega
  go_enter func172,ntmps172;go_wp2;go_ret;exact ⟨by rw [H.o];rfl,(bel (b_))⟩
 obtain ⟨k,rfl⟩:∃ k:Nat,pc=k:=⟨pc.toNat,o_⟩;have HK:=q_ (opAt_nat l k);by_cases h1:k<n
 ·obtain ⟨ab,ao,rfl,A1,A0⟩:=hs.at_ o_;obtain ⟨x,hx⟩:∃ x,l[k]?=some x:=⟨_,ge_ (by rw [HL.o];exact h1)⟩;have HX:=q_ hx;have c0:w.cell? ⟨ab,ao+k*5,none⟩=some (i_ x.op):=A0 k x hx 0 _ rfl;have h3:(k:Int)<(n:Int):=by omega
  clear A0 hx h0;exact t3_
 have h2:¬(k:Int)<(n:Int):=by omega
 have HX:=h_ (l[k]?=none) (List.getElem?_eq_none yp_);exact t3_
theorem infoInt:(prog.info? 3).map (fun i=>(i.zero,i.size,i.bytes))=some (some (i_ 0),1,8):=by kernel_rfl
def RDiv (X:NP) (K:Nat) (e:Ending) (w:World):Prop:=∃ (A:OA) (n c:Nat),e=.returned (.agg #[.slice A n c])/\Hid (SlT w X K [.num] A n c)
theorem Every_t (X:NP) (K:Nat) (A:OA) (n c:Nat) (v s:Int) (l:List In) (w:World) (hs:Sl w w 5 In.cells A n l) (hn:n<=9000000000000) (hK:2049<=K) (hX:∀ k,X k->k<w) :
  Calls prog 70 #[.agg #[.slice A n c,i_ v,i_ s]] w fun e w'=>RDiv X K e w'/\Below w w w':=by
 obtain ⟨i0,Am,An,Ao,Ap⟩:=info_parts infoInt;obtain ⟨W,hW,A4,Al,B0,B1,B2⟩:=et_ w [.slice A n c,i_ v,i_ s] 26 [.slice none 0 0] 32 [.slice none 0 0] 32;have HS:=q_ (hs.up A4);have HW:=q_ A4;have Ad:=q_ B0;have Ae:=q_ B1;have Af:=q_ B2;have A3:=h_ (∀ k,(X k\/(w<=k/\k<w+3))->k<W) (fun k hk=>by rcases hk with hk | hk;have:=hX k hk;omega;omega);have c0:=B0.2.1 0 _ rfl;have c1:=B0.2.1 1 _ rfl;have c2:=B0.2.1 2 _ rfl;have Ac:(w:Nat)+3=W:=by omega
 have A0:=q_ Ac;have Ak:=q_ hX;clear hs hX B0 B1 B2 A4 Al Ac;go_enter func70,ntmps70;go_upto_region 2 with fail;rw [<-hW];clear hW;go_wp2_with fail;refine (Valid_any A n c v s l W HS.o hn).mono ?_;rintro e Z ⟨⟨b,rfl,hb⟩,hZ⟩;have hsz:=hZ.size;have Aj:=q_ (Ad.o.below hZ);have A1:=q_ (Ae.o.below hZ);have A9:=q_ (Af.o.below hZ);have Aa:=q_ hZ;clear hZ c0 c1 c2;cases b
 ·have d0:=A9.o.2.1 0 _ rfl;have d1:=A1.o.2.1 0 _ rfl;have d2:=A1.o.2.2;go_wp2;refine retC results70 zc_ underlying32 rfl k_ (cs:=[_]) (A1.o.set 0 _).whole rfl ?_;have A7:Below w w (Z.setCell (a_ (w+1)) (.slice none 0 0)):=(HW.o.trans (Aa.o.mono (by have:=A0.o;omega))).setCell z5_ _;exact ⟨⟨none,0,0,rfl,q_ ((OwT.nil _ w 3 [.num] X K).slT Ak.o o_)⟩,A7⟩
 have Aq:=(hb rfl).2;clear hb;have Ah:=h_ (Kp (fun k=>k=w+2) W Z) (.of_below Aa.o);go_upto_region 4 with fail;go_loopw [4] (fun i wr=>∃ (k:Nat) (B:OA) (d:Nat),k<=(s+1).toNat/\i=i_ k/\Hid (OwT wr W 3 [.num] (fun k=>X k\/(w<=k/\k<w+3)) K B k d)/\Hid (Bx wr w [.slice A n c,i_ v,i_ s])/\Hid (Bx wr (w+1) [.slice none 0 0])/\Hid (Bx wr (w+2) [.slice B k d])/\Hid (Kp (fun k=>k=w+2) W wr)) (fun i _=>(s+1).toNat - (intOf i).toNat)
 case atStart=>exact ⟨0,none,0,o_,rfl,q_ (OwT.nil _ _ _ _ _ _),Aj,A1,A9,Ah⟩
 obtain ⟨k,B,d,hk,rfl,hO,Ab,A2,A6,A8⟩:=hrel;have Ar:=A8.o.size;have c2:=Ab.o.2.1 2 _ rfl;have d0:=A6.o.2.1 0 _ rfl;by_cases hlt:(k:Int)<=s
 ·have d2:=A6.o.2.2;have HU:=h_ (∀ a:Int,SlT (wr.alloc (.cells #[i_ a] 3)) (Wi (fun k=>X k\/(w<=k/\k<w+3)) (Value.slice B k d).ownBlock) K [.num] (some (a_ wr)) 1 1) (fun a=>by
   refine SlT.lit1 (e:=[.num]) (VTs.cons (.num a) VTs.nil) _ (fun h=>?_) o_
   rcases h with h | h
   ·have:=A3.o _ h;omega
   obtain ⟨xs,ho,_⟩:=hO.o
   have:=(an_ ho h).2;omega)
  have Ai:=h_ (∀ o,OwT (wr.alloc o) W 3 [.num] (fun k=>X k\/(w<=k/\k<w+3)) K B k d) (fun o=>hO.o.below ((b_).alloc (l_) o));go_wp2_with (at_builtin;refine ap_ rfl _ _ 30 rfl W 3 i0 _ 8 [.num] (fun k=>X k\/(w<=k/\k<w+3)) K underlying30 Am An Ao Ap rfl d_ B k d zb_ (Ai.o _) _ 1 1 zb_ (HU.o _) (fun k hk=>by have:=A3.o k hk;simp;omega) m_ o_ zm_ ?_;intro A5 c5 w5 o5 g5 l5;have kq:Kp (fun g=>W<=g) wr w5:=((Kp.refl _ wr).alloc _).grown g5 (fun g hg=>.inl w3_);have x0:=q_ (Ab.o.kp kq wh_);have x1:=q_ (A2.o.kp kq wh_);have x2:=q_ (A6.o.kp kq wh_);have Ag:=h_ (Kp (fun k=>k=w+2) W w5) ((A8.o.alloc _).grown g5 (fun g hg=>.inr w3_));have O5:=q_ o5;have y0:=x2.o.2.1 0 _ rfl;have y1:=x2.o.2.2;clear o5 g5 l5 kq c2 d0 d2);go_roundw
  case rel=>exact ⟨k+1,A5,c5,o_,za_,q_ (O5.o.kept (dw_ _ _ _) (fun g hg=>by injection hg with hg;subst hg;exact ⟨.inr ⟨y4_,w7_⟩,by have:=A0.o;show (w:Nat)+1+1<_;omega⟩)),q_ (x0.o.far x1_ _),q_ (x1.o.far w6_ _),q_ (x2.o.set 0 _),q_ (Ag.o.setCell (p:=(a_ (w+2))) (.inl rfl) _)⟩
  case measure=>exact me_
 have d1:=A2.o.2.1 0 _ rfl;have d2:=A2.o.2.2;go_wp2;refine retC results70 zc_ underlying32 rfl k_ (cs:=[_]) (A2.o.set 0 _).whole rfl ?_;have A7:Below w w (wr.setCell (a_ (w+1)) (.slice B k d)):=(HW.o.trans (A8.o.below (B:=w) (by have:=A0.o;omega) (fun k hk h=>o_))).setCell z5_ _;exact ⟨⟨B,k,d,rfl,q_ (((hO.o.slT A3.o o_).up ((Kp.refl _ wr).setCell (p:=(a_ (w+1))) (.inl (.inr ⟨z5_,by show (w:Nat)+1<w+3;omega⟩)) _) (Nat.le_refl K)).kept (Kp.refl _ _) (fun k _ h h2=>h (.inl h2)) (Nat.le_refl K))⟩,A7⟩
def oneT:List CT:=[.sl ay_,.num,.num] ++ cpuT ++ [.sl objT,.num] ++ effT ++ [.tru]
def dj_:Nat->Option TypeId:=fun j=>if j=72\/j=73 then some 87 else none
def oneK (K L:Nat):Nat->Nat:=fun j=>if 72<=j then L else K
def oneL (b K L:Nat):LV:=⟨b,oneK K L,oneT,dj_⟩
theorem isz_38:(prog.info? 38).map (·.size)=some valT.length:=by kernel_rfl
def Mv (l:List In) (pc:Int) (vs:VL):Prop:=∀ kd p:Int,vs[38]?=some (i_ kd)->vs[39]?=some (i_ p)->vs[81]?=some (.bool false)->(1<=kd/\kd<=3)\/pc<p\/opAt l p=21
structure OneS (X Z:NP) (w0:World) (LL:List LV) (b K L:Nat) (l:List In) (pc:Int) (Y:NP) (C:Nat->VL) (w:World):Prop where
 fr:Fr X Z w0 (oneL b K L :: LL) Y C w
 code:∃ (A:OA) (n c:Nat) (v s:Int),(C b)[0]?=some (.slice A n c)/\(C b)[1]?=some (i_ v)/\(C b)[2]?=some (i_ s)/\Sl w w 5 In.cells A n l/\n<=2048
 pcs:(C b)[3]?=some (i_ pc)
 mv:Mv l pc (C b)
section
variable {X Z Y Y':NP} {w0 w w':World} {LL LL':List LV} {b K L L':Nat} {l:List In} {pc:Int} {C C':Nat->VL}
theorem Sl.go {α:Type} {sz n c:Nat} {cells:α->VL} {A:OA} {l:List α} {e:List CT} {K:Nat} (h:Sl w w sz cells A n l) (ht:SlT w Y K e A n c) (u:Up w Y w' Y'):Sl w' w' sz cells A n l:=by
 refine ⟨h.len,fun hn=>?_⟩;obtain ⟨ab,ao,e1,A0,hc⟩:=h.at_ hn;obtain ⟨g,o,e2,hg,hX,_⟩:=ht.at_ _ e1;injection e2 with e2 e3;subst e2;exact ⟨ab,ao,e1,lt_ A0 u.kp.size,fun i x hx j v hv=>(u.kp.cell A0 hX).trans (hc i x hx j v hv)⟩
theorem OneS.go (h:OneS X Z w0 LL b K L l pc Y C w) (f:Fr X Z w0 (oneL b K L' :: LL') Y' C' w') (u:Up w Y w' Y') (e:∀ j,j<4->(C' b)[j]?=(C b)[j]?) (hm:Mv l pc (C b)->Mv l pc (C' b)):OneS X Z w0 LL' b K L' l pc Y' C' w':=by
 obtain ⟨A,n,c,v,s,h0,h1,h2,h3,h4⟩:=h.code;obtain ⟨A',n',c',_,h6,h7⟩:=h.fr.slc (i:=0) rfl (j:=0) (e:=ay_) rfl rfl;rw [h0] at h7;injection h7 with h7;injection h7 with q1 q2 q3;subst q1 q2 q3;exact ⟨f,⟨A,n,c,v,s,(e 0 o_).trans h0,(e 1 o_).trans h1,(e 2 o_).trans h2,Sl.go h3 h6 u,h4⟩,(e 3 o_).trans h.pcs,hm h.mv⟩
theorem OneS.call (h:OneS X Z w0 LL b K L l pc Y C w) (hb:Below w w w'):OneS X Z w0 LL b K L l pc Y C w':=h.go (h.fr.call hb) (.of_below hb) (fun _ _=>rfl) (fun h=>h)
theorem one_up (b K:Nat) {L L':Nat} (hL:L<=L') (j:Nat):(oneL b K L).K j<=(oneL b K L').K j:=by
 show oneK K L j<=oneK K L' j
 unfold oneK;split <;> omega
theorem OneS.raise (h:OneS X Z w0 LL b K L l pc Y C w) (hL:L<=L'):OneS X Z w0 LL b K L' l pc Y C w:=h.go (h.fr.up1 rfl rfl rfl (one_up b K hL)) (Up.refl _ _) (fun _ _=>rfl) (fun h=>h)
end
def Ms (X Z:NP) (w0:World) (LL:List LV) (b K L':Nat) (l:List In) (pc:Int) (Y:NP) (C:Nat->VL) (w w':World) (J:NP):Prop:=∃ Y' C',OneS X Z w0 LL b K L' l pc Y' C' w'/\Up w Y w' Y'/\(∀ q,q≠b->q<w->C' q=C q)/\∀ j,J j->(C' b)[j]?=(C b)[j]?
theorem ej_ {X Z Y:NP} {w0:World} {LL:List LV} {b K L:Nat} {l:List In} {pc:Int} {C:Nat->VL} (w:World) (h:OneS X Z w0 LL b K L l pc Y C w) (hL:L<=100000) (id f:Int) (v:Val) :
  Calls prog 173 #[.pointer (some (a_ b)),i_ id,i_ f,.agg #[.bool v.ref,i_ v.n]] w fun e w'=>e=.returned (.tuple #[])/\Ms X Z w0 LL b K (L+1) l pc Y C w w' (fun j=>j≠73):=by
 obtain ⟨i0,z0,A6,A8,A7,A5,A9⟩:=ei_cell.hi;obtain ⟨A0,n0,c0,_,A3,A4,_,_⟩:=h.fr.own (i:=0) rfl (j:=73) (e:=aq_) (et:=87) rfl rfl;have HS:=q_ (h.raise (Nat.le_succ L));obtain ⟨W,Y1,C1,hW,Ab,u1,f1,c1,cO⟩:=HS.o.fr.add1 0 valT [.bool v.ref,i_ v.n] 38 (vtsval _ _);have F1:=q_ f1;have U1:=q_ u1;have Ac:=HS.o.fr.blt (i:=0) rfl;have x0:=f1.cell (i:=0) rfl (j:=0) (by rw [c1];rfl);have x1:=f1.cell (i:=0) rfl (j:=1) (by rw [c1];rfl);obtain ⟨A,n,c,Aa,hC,hn,hO,hY⟩:=f1.own (i:=1) rfl (j:=73) (e:=aq_) (et:=87) rfl rfl;have A2:=hC;rw [cO b o_,A3] at A2;injection A2 with A2;injection A2 with q1 q2 q3;subst q1 q2 q3;have Ad:n0<=L:=A4;have HC:=q_ hC;have HY:=q_ hY;have A1:=q_ cO;have HB:=h_ (Below W W (W.drew.alloc (.cells #[i_ id,i_ f,.bool v.ref,i_ v.n] 87))) ((Below.drew (b_)).alloc (l_) _);have HO:=h_ (OwT _ 0 87 aq_ Y1 (L+1) A0 n0 c0) (hO.below HB.o);have HU:=h_ (SlT (W.drew.alloc (.cells #[i_ id,i_ f,.bool v.ref,i_ v.n] 87)) (Wi Y1 (Value.slice A0 n0 c0).ownBlock) (L+1) aq_ (some (a_ W)) 1 1) ((SlT.lit1 (w:=W.drew) (e:=aq_) (eg_ id f v.ref v.n) _ (fun h=>Nat.lt_irrefl _ (F1.o.lt _ h)) o_).kept (Kp.refl _ _) (fun k _ h1 h2=>h2.elim h1 (fun h3=>h1 (hY k h3))) (l_));have HG:=h_ (∀ w',(W.drew.alloc (.cells #[i_ id,i_ f,.bool v.ref,i_ v.n] 87)).grownBy w' (Value.slice A0 n0 c0).ownBlock->Bx w' b (C1 b)) (fun w' g'=>(F1.o.call HB.o).cx_ (i:=1) (j:=73) (t:=.sl aq_) (et:=87) rfl rfl rfl HC.o g');clear h f1 u1 c1 hO hC hY cO hn A4 A3;go_enter func173,ntmps173;go_upto_region 1 with fail;rw [<-hW];clear hW;go_region_law (refine bt_ rfl (.tmp 13) (.tmp 18) 54 rfl 0 87 i0 _ 32 aq_ Y1 (L+1) underlying54 A6 A8 A7 A5 A9 d_ A0 n0 c0 v_ HO.o (some (a_ W)) 1 1 (by simp [Act.eval,Act.put] <;> omega) HU.o (fun k hk=>lt_ (F1.o.lt k hk) HB.o.size) m_ o_ (Nat.zero_le _) ?_;intro A' c' w' o' g' l';have O':=q_ o';have G':=q_ g';have L':=q_ l';have BX:=HG.o w' g';have Af:=BX.2.1 73 _ HC.o;have yf:=BX.2.2;clear o' g' l' BX Aa x0 x1);all_goals
  obtain ⟨Y2,f2,u2⟩:=(F1.o.call HB.o).append (i:=1) (j:=73) rfl (e:=aq_) rfl (et:=87) rfl HC.o O'.out (show n0+1<=L+1 by omega) G'.out L'.out;go_wp2;refine end0 zc_ rfl ?_;refine ⟨rfl,Y2,_,(HS.o.go (LL':=LL) f2.tail ((U1.o.trans (.of_below HB.o)).trans u2) (fun j hj=>?_) (fun hm kd p h1 h2 h3=>?_)),(U1.o.trans (.of_below HB.o)).trans u2,fun q hq Ae=>?_,fun j hj=>?_⟩
  ·rw [upd_same,gs_,if_neg o_,A1.o b o_]
  ·rw [upd_same,gs_,if_neg o_,A1.o b o_] at h1 h2 h3;exact hm kd p h1 h2 h3
  ·rw [ad_ _ _ hq,A1.o q o_]
  rw [upd_same,gs_,if_neg o_,A1.o b o_]
theorem delta_t (X:NP) (K:Nat) (vs:VL) (id f:Int) (w:World) (ht:VTs w X K af_ vs) (hK:K<=4398046510976) :
  Calls prog 140 #[.agg vs.toArray,i_ id,i_ f] w fun e w'=>(∃ n,n<=K/\(∃ A c,vs[40]?=some (.slice A n c))/\RIdx n e)/\Below w w w':=by
 obtain ⟨A,n,c,hf,h⟩:=ht.slc (j:=40) (e:=bn_) rfl;obtain ⟨W,hW,A0,A3,B0⟩:=ag_ w vs 65;have d0:=B0.2.1 40 _ hf;have HF:=h_ (n<=K/\(∃ A c,vs[40]?=some (.slice A n c))) (⟨h.le,A,c,hf⟩);have H:=q_ (h.up (Kp.of_below A0) (Nat.le_refl K));have hn:n<=4398046510976:=Nat.le_trans h.le hK;have HW:=q_ A0;clear h hf ht A0 A3 B0;go_enter func140,ntmps140;go_upto_region 1 with fail;rw [<-hW];clear hW;go_upto_region 2 with fail;go_loopw [12] (fun i wr=>∃ k:Nat,k<=n/\i=i_ k/\Below W W wr) (fun i _=>n - (intOf i).toNat)
 case atStart=>exact ⟨0,o_,rfl,b_⟩
 obtain ⟨k,hk,rfl,hb⟩:=hrel;have A4:=hb.size;by_cases hlt:k<n
 ·have A1:(k:Int)<(n:Int):=by omega
  obtain ⟨g,o,rfl,hg,x,hx⟩:=H.o.delta_at hlt;obtain ⟨c0,c1,c2,c3,c4⟩:=hx wr hb;have HB:=q_ hb;have A2:=q_ (HW.o.trans (hb.mono HW.o.size));have A5:=A2.o.size;have HR:=h_ (RIdx n (.returned (i_ (k:Int)))) (⟨_,rfl,q_ (.inr ⟨k,hlt,rfl⟩)⟩);clear hx hb;go_wp2;all_goals first
   | (go_ret;exact ⟨⟨n,HF.o.1,HF.o.2,HR.o⟩,(bel A2.o)⟩)
   | (go_roundw
      case rel=>exact ⟨k+1,o_,za_,(bel HB.o)⟩
      case measure=>exact me_)
 have A1:¬(k:Int)<(n:Int):=by omega
 exact tp_
theorem own_t (X:NP) (K:Nat) (vs:VL) (id:Int) (w:World) (ht:VTs w X K af_ vs) (hK:K<=4398046510976) :
  Calls prog 139 #[.agg vs.toArray,i_ id] w fun e w'=>(∃ n,n<=K/\(∃ A c,vs[39]?=some (.slice A n c))/\RIdx n e)/\Below w w w':=by
 obtain ⟨A,n,c,hf,h⟩:=ht.slc (j:=39) (e:=objT) rfl;obtain ⟨W,hW,A0,A3,B0⟩:=ag_ w vs 65;have d0:=B0.2.1 39 _ hf;have HF:=h_ (n<=K/\(∃ A c,vs[39]?=some (.slice A n c))) (⟨h.le,A,c,hf⟩);have H:=q_ (h.up (Kp.of_below A0) (Nat.le_refl K));have hn:n<=4398046510976:=Nat.le_trans h.le hK;have HW:=q_ A0;clear h hf ht A0 A3 B0;go_enter func139,ntmps139;go_upto_region 1 with fail;rw [<-hW];clear hW;go_upto_region 2 with fail;go_loopw [10] (fun i wr=>∃ k:Nat,k<=n/\i=i_ k/\Below W W wr) (fun i _=>n - (intOf i).toNat)
 case atStart=>exact ⟨0,o_,rfl,b_⟩
 obtain ⟨k,hk,rfl,hb⟩:=hrel;have A6:=hb.size;by_cases hlt:k<n
 ·have A1:(k:Int)<(n:Int):=by omega
  obtain ⟨g,o,rfl,hg,x,A4,A5,hx⟩:=H.o.obj_at hlt;obtain ⟨c0,c1⟩:=hx wr hb;have HB:=q_ hb;have A2:=q_ (HW.o.trans (hb.mono HW.o.size));have A7:=A2.o.size;have HR:=h_ (RIdx n (.returned (i_ (k:Int)))) (⟨_,rfl,q_ (.inr ⟨k,hlt,rfl⟩)⟩);clear hx hb;go_wp2;all_goals first
   | (go_ret;exact ⟨⟨n,HF.o.1,HF.o.2,HR.o⟩,(bel A2.o)⟩)
   | (go_roundw
      case rel=>exact ⟨k+1,o_,za_,(bel HB.o)⟩
      case measure=>exact me_)
 have A1:¬(k:Int)<(n:Int):=by omega
 exact tp_
theorem Active_t (X:NP) (K:Nat) (A:OA) (n c:Nat) (s:Int) (w:World) (h:SlT w X K [.num] A n c) (hK:K<=4398046510976) :
  Calls prog 89 #[.agg #[.slice A n c],i_ s] w fun e w'=>RB e/\Below w w w':=by
 obtain ⟨W,hW,A0,A3,B0⟩:=ag_ w [.slice A n c] 32;have d0:=B0.2.1 0 _ rfl;have H:=q_ (h.up (Kp.of_below A0) (Nat.le_refl K));have hn:n<=4398046510976:=Nat.le_trans h.le hK;have HW:=q_ A0;clear h A0 A3 B0;go_enter func89,ntmps89;go_upto_region 1 with fail;rw [<-hW];clear hW;go_upto_region 2 with fail;go_loopw [10] (fun i wr=>∃ k:Nat,k<=n/\i=i_ k/\Hid (wr=W)) (fun i _=>n - (intOf i).toNat)
 case atStart=>exact ⟨0,o_,rfl,q_ rfl⟩
 obtain ⟨k,hk,rfl,A2⟩:=hrel;have hw:=A2.o.symm;subst hw;clear A2;by_cases hlt:k<n
 ·have A1:(k:Int)<(n:Int):=by omega
  obtain ⟨g,o,rfl,hg,x,hx⟩:=H.o.num_at hlt;have c0:=hx W (b_);clear hx;go_wp2;all_goals first
   | (go_ret;exact ⟨⟨_,rfl⟩,HW.o⟩)
   | (go_roundw
      case rel=>exact ⟨k+1,o_,za_,q_ ve_⟩
      case measure=>exact me_)
 have A1:¬(k:Int)<(n:Int):=by omega
 go_wp2;go_ret;exact ⟨⟨_,rfl⟩,HW.o⟩
theorem Valid16_t (X:NP) (K:Nat) (A:OA) (n c:Nat) (v s:Int) (l:List In) (D:OA) (m d:Nat) (w:World) (hs:Sl w w 5 In.cells A n l) (hn:n<=9000000000000) (h:SlT w X K [.num] D m d) (hK:K<=4398046510976) :
  Calls prog 85 #[.agg #[.slice A n c,i_ v,i_ s],.agg #[.slice D m d]] w fun e w'=>RVal l s e/\Below w w w':=by
 obtain ⟨W,hW,A0,A4,B0,B1⟩:=cn_ w [.slice A n c,i_ v,i_ s] 26 [.slice D m d] 32;have c0:=B0.2.1 0 _ rfl;have c1:=B0.2.1 1 _ rfl;have c2:=B0.2.1 2 _ rfl;have d0:=B1.2.1 0 _ rfl;have H:=q_ (h.up (Kp.of_below A0) (Nat.le_refl K));have HS:=q_ (hs.up A0);have hm:m<=4398046510976:=Nat.le_trans h.le hK;have HW:=q_ A0;clear h hs A0 A4 B0 B1;go_enter func85,ntmps85;go_upto_region 1 with fail;rw [<-hW];clear hW;go_upto_region 2 with fail;go_loopw [10] (fun i wr=>∃ k:Nat,k<=m/\i=i_ k/\Hid (wr=W)) (fun i _=>m - (intOf i).toNat)
 case atStart=>exact ⟨0,o_,rfl,q_ rfl⟩
 obtain ⟨k,hk,rfl,A3⟩:=hrel;have hw:=A3.o.symm;subst hw;clear A3;by_cases hlt:k<m
 ·have A2:(k:Int)<(m:Int):=by omega
  obtain ⟨g,o,rfl,hg,x,hx⟩:=H.o.num_at hlt;have e0:=hx W (b_);clear hx;rcases Nat.eq_zero_or_pos k with h0 | h0
  ·subst h0;rw [Nat.add_zero] at e0;go_wp2;all_goals first
    | (go_ret;exact ⟨rval_no l s,HW.o⟩)
    | (go_roundw
       case rel=>exact ⟨0+1,o_,za_,q_ ve_⟩
       case measure=>exact me_)
  obtain ⟨j,rfl⟩:∃ j,k=j+1:=⟨k - 1,o_⟩;obtain ⟨g2,o2,A1,_,y,hy⟩:=H.o.num_at (k:=j) o_;injection A1 with A1;injection A1 with hA3 hA4;subst hA3 hA4;have e1:=hy W (b_);have A5:(0:Int)<((j+1:Nat):Int):=by omega
  have A7:IntKind.i64.wrap (((j+1:Nat):Int) - 1)=(j:Int):=by rw [IntKind.wrap_i64];omega
  have A6:(j:Int)<(m:Int):=by omega
  clear hy;go_wp2;all_goals first
   | (go_ret;exact ⟨rval_no l s,HW.o⟩)
   | (go_roundw
      case rel=>exact ⟨j+1+1,o_,za_,q_ ve_⟩
      case measure=>exact me_)
 have A2:¬(k:Int)<(m:Int):=by omega
 go_wp2_with (go_at_call 72;refine (Valid_any A n c v s l _ HS.o hn).mono ?_;rintro e Y ⟨⟨b,rfl,hg⟩,hY⟩);go_ret;exact ⟨⟨b,rfl,hg⟩,HW.o.trans (hY.mono HW.o.size)⟩
def lenV:Value->Nat
 | .slice _ n _=>n
 | _=>0
theorem Chain_t (X:NP) (K:Nat) (A:OA) (n c:Nat) (v s:Int) (l:List In) (SA:OA) (sn sc:Nat) (st cnt:Int) (w:World) (hl:Sl w w 5 In.cells A n l) (hn:n<=9000000000000) (hs:SlT w X K folT SA sn sc) (hK:K<=900000000) (hX:∀ k,X k->k<w) :
  Calls prog 45 #[.agg #[.slice A n c,i_ v,i_ s],.agg #[.slice SA sn sc],i_ st,i_ cnt] w fun e w'=>RSl X 16 [.num] e w'/\Below w w w':=by
 obtain ⟨i0,Am,An,Ao,Ap⟩:=info_parts infoInt;obtain ⟨W,hW,A2,Al,B0,B1⟩:=cn_ w [.slice A n c,i_ v,i_ s] 26 [.slice SA sn sc] 99;have KC:=h_ (∀ w',Below W W w'->(w'.cell? (a_ w)=some (.slice A n c)/\w'.cell? (f_ w 1)=some (i_ v)/\w'.cell? (f_ w 2)=some (i_ s))/\w'.cell? (a_ (w+1))=some (.slice SA sn sc)/\Sl w' w' 5 In.cells A n l/\SlT w' X K folT SA sn sc/\Below w w w') (fun w' hb =>
  ⟨⟨(B0.below hb).2.1 0 _ rfl,(B0.below hb).2.1 1 _ rfl,(B0.below hb).2.1 2 _ rfl⟩,(B1.below hb).2.1 0 _ rfl,hl.up (A2.trans (hb.mono A2.size)),hs.up (Kp.of_below (A2.trans (hb.mono A2.size))) (l_),A2.trans (hb.mono A2.size)⟩)
 have A1:=h_ (∀ k,X k->k<W) (fun k hk=>by have:=hX k hk;omega);clear hl hs hX B0 B1 A2 Al;go_enter func45,ntmps45;go_upto_region 1 with fail;rw [<-hW];clear hW;go_upto_region 2 with fail;go_wp2_with fail;go_loopw [9,10,11] (fun o a k wr=>∃ (A9:OA) (n9 c9:Nat) (A0:Int) (ok:Bool),o=.slice A9 n9 c9/\a=i_ A0/\k=.bool ok/\n9<=16/\Hid (OwT wr W 3 [.num] X 16 A9 n9 c9)/\Hid (Below W W wr)) (fun o _ _ _=>16 - lenV o)
 case atStart=>exact ⟨none,0,0,st,true,rfl,rfl,rfl,o_,q_ (OwT.nil _ _ _ _ _ _),q_ (b_)⟩
 obtain ⟨A9,n9,c9,A0,ok,rfl,rfl,rfl,A3,hO,hB⟩:=hrel;have K0:=q_ (KC.o wr hB.o);obtain ⟨⟨c0,c1,c2⟩,d0,_⟩:=K0.o;cases ok
 case false =>
  exact uv_
 case true =>
 by_cases h1:(n9:Int)<cnt
 case neg =>
  exact uv_
 case pos =>
 by_cases h2:(n9:Int)<16
 case neg =>
  exact uv_
 case pos =>
 go_wp2_with fail;refine (Beginning_any A n c v s A0 l wr K0.o.2.2.1 hn).mono ?_;rintro e w1 ⟨⟨b1,rfl⟩,Aa⟩;have A4:=q_ (hB.o.trans (Aa.mono hB.o.size));have A7:=q_ (hO.o.below Aa);clear Aa c0 c1 c2 d0 hO K0;have K1:=q_ (KC.o w1 A4.o);obtain ⟨⟨c0,c1,c2⟩,d0,_⟩:=K1.o;cases b1
 case false =>
  go_wp2_with fail;go_ret;exact ⟨⟨_,_,_,rfl,q_ (A7.o.slT A1.o A3)⟩,K1.o.2.2.2.2⟩
 case true =>
 go_wp2_with fail;refine (Asks_any A n c v s A0 l w1 K1.o.2.2.1 hn).mono ?_;rintro e w2 ⟨⟨b2,rfl,_⟩,Ab⟩;have A5:=q_ (A4.o.trans (Ab.mono A4.o.size));have A8:=q_ (A7.o.below Ab);clear Ab c0 c1 c2 d0 A7 K1;have K2:=q_ (KC.o w2 A5.o);obtain ⟨⟨c0,c1,c2⟩,d0,_⟩:=K2.o;cases b2
 case true =>
  go_wp2_with fail;go_ret;exact ⟨⟨_,_,_,rfl,q_ (A8.o.slT A1.o A3)⟩,K2.o.2.2.2.2⟩
 case false =>
 have Aq:(W:Nat)<=w2:=A5.o.size;have Ad:Below w2 w2 (w2.alloc (.cells #[i_ A0] 3)):=(b_).alloc (l_) _;have Ai:=h_ (SlT (w2.alloc (.cells #[i_ A0] 3)) (Wi X (Value.slice A9 n9 c9).ownBlock) 16 [.num] (some (a_ w2)) 1 1) (SlT.lit1 (e:=[.num]) (VTs.cons (.num _) VTs.nil) _ (fun h=>by
  rcases h with h | h
  ·have:=A1.o _ h;omega
  obtain ⟨xs,ho,_⟩:=A8.o;have:=(an_ ho h).2;omega) o_)
 have Ae:=q_ (A8.o.below Ad);have Ak:=h_ (∀ k,X k->k<(w2.alloc (.cells #[i_ A0] 3)).heap.size) (fun k hk=>by have:=A1.o k hk;simp;omega);have Af:=h_ ((W:Nat)<=(w2.alloc (.cells #[i_ A0] 3)).heap.size) zm_;have Ah:=q_ (A5.o.trans (Ad.mono Aq));clear Ad;go_upto_region 5 with (at_builtin;refine ap_ rfl _ _ 30 rfl W 3 i0 _ 8 [.num] X 16 underlying30 Am An Ao Ap rfl d_ A9 n9 c9 v_ Ae.o (some (a_ w2)) 1 1 v_ Ai.o Ak.o m_ o_ Af.o ?_;intro A6 c6 w6 o6 g6 l6;have O6:=q_ o6;have B6:=q_ (Ah.o.grown g6 Af.o (fun k hk=>by obtain ⟨xs,ho,_⟩:=Ae.o;exact (an_ ho hk).1));clear o6 g6 l6);clear c0 c1 c2 d0;have K6:=q_ (KC.o w6 B6.o);obtain ⟨⟨c0,c1,c2⟩,d0,_⟩:=K6.o;go_wp2_with fail;refine (Guess20_t X K SA sn sc A0 w6 K6.o.2.2.2.1 hK).mono ?_;rintro e w7 ⟨⟨q,b,rfl⟩,Ac⟩;have Ag:=q_ (B6.o.trans (Ac.mono B6.o.size));have Aj:=q_ (O6.o.below Ac);clear Ac c0 c1 c2 d0;go_wp2_with fail;go_roundw
 case rel=>exact ⟨A6,n9+1,c6,q,b,rfl,rfl,rfl,o_,Aj,Ag⟩
 case measure=>simp [lenV];omega
end Go.Proofs.YtfolidlmgfhkiaaGreat
namespace Go.Proofs.YtfolidlmgfhkiaaGreat
open Go.RowKit
section
variable {X Z Y:NP} {w0 w w':World} {L:List LV} {C:Nat->VL} {b i j:Nat} {K:Nat->Nat} {ts:List CT} {ow:Nat->Option TypeId} {t:CT} {v:Value}
theorem Fr.root (h:Fr X Z w0 L Y C w):Fr (fun _=>False) Y w L Y C w :=
 ⟨Kp.refl _ _,fun _ h=>h.elim,h.lt,fun p hp=>by obtain ⟨h1,h2,h3,h4⟩:=h.blk p hp;exact ⟨h1,.inr h1,h3,h4⟩,h.val,
   fun p hp j t et hj ho=>by
  obtain ⟨e,A,n,c,h1,h2,h3,h4,h5⟩:=h.row p hp j t et hj ho
  exact ⟨e,A,n,c,h1,h2,h3,h4,fun g hg=>⟨(h5 g hg).1,.inr (h5 g hg).1,(h5 g hg).2.2⟩⟩,h.far,h.nd⟩
theorem Fr.weak {L':List LV} (h:Fr X Z w0 L Y C w) (hL:L'.length=L.length) (hr:∀ (i:Nat) (p q:LV),L[i]?=some p->L'[i]?=some q->q.b=p.b/\q.ow=p.ow/\(∀ j,p.K j<=q.K j)/\q.ts.length=p.ts.length/\∀ j t t',p.ts[j]?=some t->q.ts[j]?=some t' →
   (p.ow j=none->∀ v,VT w Y (q.K j) t v->VT w Y (q.K j) t' v)/\(p.ow j≠none->∀ e:List CT,t=.sl e->∃ e':List CT,t'=.sl e'/\e'.length=e.length/\∀ (i:Nat) (s s':CT),e[i]?=some s->e'[i]?=some s'->∀ (X':NP) (K':Nat) (v:Value),VT w X' K' s v->VT w X' K' s' v)):Fr X Z w0 L' Y C w:=by
 have back:∀ q ∈ L',∃ i p,p ∈ L/\L[i]?=some p/\L'[i]?=some q:=fun q hq=>by
  obtain ⟨i,hi⟩:=List.getElem?_of_mem hq;have A0:i<L.length:=by rw [<-hL];exact (e_ hi).1
  exact ⟨i,L[i],List.getElem_mem A0,ge_ A0,hi⟩
 refine ⟨h.kp,h.sub,h.lt,fun q hq=>?_,fun q hq j t hj ho=>?_,fun q hq j t et hj ho=>?_,fun p hp q hq i j u v g hne A1 A2 hi hj hu=>?_,?_⟩
 ·obtain ⟨i,p,hp,a1,a2⟩:=back q hq;obtain ⟨e1,e2,e3,e4,e5⟩:=hr i p q a1 a2;rw [e1,e4];exact h.blk p hp
 ·obtain ⟨i,p,hp,a1,a2⟩:=back q hq;obtain ⟨e1,e2,e3,e4,e5⟩:=hr i p q a1 a2;have A0:j<p.ts.length:=by rw [<-e4];exact (e_ hj).1
  rw [e2] at ho;obtain ⟨v,h1,h2⟩:=h.val p hp j _ (ge_ A0) ho;rw [e1];exact ⟨v,h1,(e5 j _ t (ge_ A0) hj).1 ho v (h2.kept (Kp.refl _ _) (fun _ _ h=>h) (e3 j))⟩
 ·obtain ⟨i,p,hp,a1,a2⟩:=back q hq;obtain ⟨e1,e2,e3,e4,e5⟩:=hr i p q a1 a2;have A0:j<p.ts.length:=by rw [<-e4];exact (e_ hj).1
  rw [e2] at ho;obtain ⟨e,A,n,c,h1,h2,h3,h4,h5⟩:=h.row p hp j _ et (ge_ A0) ho;obtain ⟨e',f1,f2,f3⟩:=(e5 j _ t (ge_ A0) hj).2 (fun e=>by rw [ho] at e;cases e) e h1;rw [e1];refine ⟨e',A,n,c,f1,h2,Nat.le_trans h3 (e3 j),?_,fun g hg=>⟨(h5 g hg).1,(h5 g hg).2.1,fun r A6=>?_⟩⟩
  ·obtain ⟨xs,o1,o2⟩:=h4;refine ⟨xs,by rw [f2];exact o1,fun k q t' hk hq=>?_⟩;have A3:q<e.length:=by rw [<-f2];exact (e_ hq).1
   obtain ⟨u,hu,hv⟩:=o2 k q _ hk (ge_ A3);rw [f2];exact ⟨u,hu,f3 q _ t' (ge_ A3) hq _ _ u (hv.kept (Kp.refl _ _) (fun _ _ h=>h) (e3 j))⟩
  obtain ⟨i',s,hs,b1,b2⟩:=back r A6;rw [(hr i' s r b1 b2).1];exact (h5 g hg).2.2 s hs
 ·obtain ⟨i1,p',A4,a1,a2⟩:=back p hp;obtain ⟨i2,q',A5,b1,b2⟩:=back q hq;obtain ⟨e1,e2,_⟩:=hr i1 p' p a1 a2;obtain ⟨f1,f2,_⟩:=hr i2 q' q b1 b2;rw [e1] at hi;rw [f1] at hj;rw [e1,f1] at hne;rw [e2] at A1;rw [f2] at A2;exact h.far p' A4 q' A5 i j u v g hne A1 A2 hi hj hu
 have:L'.map LV.b=L.map LV.b:=by
  apply List.ext_getElem?;intro i;rw [List.getElem?_map,List.getElem?_map];by_cases hi:i<L.length
  ·exact t5_
  rw [List.getElem?_eq_none o_,List.getElem?_eq_none o_]
 rw [this];exact h.nd
theorem Fr.row_set {e:List CT} {et:TypeId} {g n c k q:Nat} {t':CT} {u:Value} (h:Fr X Z w0 L Y C w) (hp:L[i]?=some ⟨b,K,ts,ow⟩) (hj:ts[j]?=some (.sl e)) (ho:ow j=some et) (hC:(C b)[j]?=some (.slice (some (a_ g)) n c))
  (hk:k<n) (hq:e[q]?=some t') (hu:VT w Y (K j) t' u) (ad:Addr) (had:ad=⟨g,k*e.length+q,none⟩):Fr X Z w0 L Y C (w.setCell ad u)/\Up w Y (w.setCell ad u) Y:=by
 have A9:=Fr.mem hp;obtain ⟨e1,A1,n1,c1,q1,q2,q3,q4,q5⟩:=h.row _ A9 j _ et hj ho;injection q1 with q1;subst q1;rw [show (C b)[j]?=some (.slice A1 n1 c1) from q2] at hC;injection hC with hC;injection hC with ha hb hc;subst ha hb hc;obtain ⟨A7,Ac,Ad⟩:=q5 g rfl;have Ae:Kp Y w (w.setCell ad u):=(Kp.refl _ w).setCell (.inl (by rw [had];exact A7)) u;have A3:Kp (fun k=>k=g) w (w.setCell ad u):=(Kp.refl _ w).setCell (.inl (by rw [had])) u;have Ab:Up w Y (w.setCell ad u) Y:=⟨Ae,fun _ _ h=>h⟩;have hg:w.grownBy (w.setCell ad u) (some g):=⟨A3.os,A3.tape,A3.output,A3.size,fun k A2 hne=>A3.block k A2 (fun e=>hne xy_)⟩;have hsz:(w.setCell ad u).heap.size=w:=by simp [World.setCell]
 refine ⟨⟨h.kp.setCell (by rw [had];rcases Ac with h1 | h1;exact .inr h1;exact .inl h1) u,h.sub,fun k A2=>by rw [hsz];exact h.lt k A2,fun p A0=>?_,fun p A0 i2 t A6 A4=>?_,fun p A0 i2 t Aa A6 A4=>?_,h.far,h.nd⟩,Ab⟩
 ·obtain ⟨h1,h2,h3,h4⟩:=h.blk p A0;exact ⟨h1,h2,h3.kp A3 (Ad p A0),h4⟩
 ·obtain ⟨v,h1,h2⟩:=h.val p A0 i2 t A6 A4;exact ⟨v,h1,h2.go Ab (l_)⟩
 obtain ⟨e2,A,n,c,h1,h2,h3,h4,h5⟩:=h.row p A0 i2 t Aa A6 A4;refine ⟨e2,A,n,c,h1,h2,h3,?_,h5⟩;by_cases hsame:p.b=b/\i2=j
 ·obtain ⟨A5,rfl⟩:=hsame;have:=nodup_eq h.nd A0 A9 A5;subst this;rw [show ts[i2]?=some t from A6] at hj;injection hj with hj;subst hj;injection h1 with h1;subst h1;rw [show (C b)[i2]?=some (.slice A n c) from h2] at q2;injection q2 with q2;injection q2 with r1 r2 r3;subst r1 r2 r3;rw [show ow i2=some Aa from A4] at ho;injection ho with ho;subst ho;exact h4.set hk hq (hu.kept (Kp.refl _ _) (fun k _ hn hy=>by
   rcases hy with hy | hy
   ·exact hn hy
   injection hy with hy;subst hy;exact hn A7) (l_)) ad had
 refine h4.stay hg (fun k A2=>?_);injection A2 with A2;subst A2;refine ⟨A7,fun A8=>?_⟩;refine h.far p A0 _ A9 i2 j (.slice A n c) (.slice (some (a_ g)) n1 c1) g ?_ (fun e=>by rw [A4] at e;cases e) (fun e=>by cases (show some et=none from ho.symm.trans e)) h2 q2 A8 rfl;by_cases A5:p.b=b
 ·exact .inr (fun e=>hsame ⟨A5,e⟩)
 exact .inl A5
theorem own_cut {base sz n c k:Nat} {et:TypeId} {A:OA} {xs:VL} (ho:w.ownsRow base et sz (.slice A n c) n xs) (hk:k<=n):w.ownsRow base et sz (.slice A k c) k (xs.take (k*sz)):=by
 have hm:k*sz<=n*sz:=Nat.mul_le_mul_right _ hk;refine ⟨by rw [List.length_take,ho.1];omega,?_⟩;rcases ho.2 with ⟨h',h0⟩ | ⟨g,cap,cur,h',hg,hr,h1,h2,h3,h4⟩
 ·injection h' with q1 q2 q3;subst q1 q3;obtain rfl:k=0:=by omega
  exact .inl ⟨rfl,rfl⟩
 injection h' with q1 q2 q3;subst q1 q3;exact .inr ⟨g,_,cur,rfl,hg,hr,o_,h2,h3,by rw [<-h4,List.take_take,Nat.min_eq_left hm]⟩
theorem OwT.cut {base n c k K:Nat} {et:TypeId} {e:List CT} {A:OA} (h:OwT w base et e Y K A n c) (hk:k<=n):OwT w base et e Y K A k c:=by
 obtain ⟨xs,ho,hx⟩:=h;refine ⟨_,own_cut ho hk,fun q j t hq hj=>?_⟩;obtain ⟨u,hu,hv⟩:=hx q j t o_ hj;refine ⟨u,?_,?_⟩
 ·have A0:j<e.length:=(e_ hj).1;have:q*e.length+e.length<=k*e.length:=by rw [<-Nat.succ_mul];exact Nat.mul_le_mul_right _ hq
  rw [List.getElem?_take,if_pos o_];exact hu
 cases A <;> exact hv
end
/- Generated code. -/
def idxP (N:Nat) (v:Value):Prop:=∃ i:Nat,v=i_ i/\i<N
def ptrP (qs:List Nat) (v:Value):Prop:=∃ q ∈ qs,v=.pointer (some (a_ q))
theorem idxP.up {N N':Nat} {v:Value} (h:idxP N v) (hN:N<=N'):idxP N' v:=by obtain ⟨i,rfl,hi⟩:=h;exact ⟨i,rfl,o_⟩
theorem ptrP.up {qs qs':List Nat} {v:Value} (h:ptrP qs v) (hq:∀ q ∈ qs,q ∈ qs'):ptrP qs' v:=by obtain ⟨i,hi,rfl⟩:=h;exact ⟨i,hq i hi,rfl⟩
theorem VT.sat_up {w:World} {X:NP} {K:Nat} {p p':Value->Prop} {v:Value} (h:VT w X K (.sat p) v) (hp:p v->p' v):VT w X K (.sat p') v:=by
 cases h with
 | sat _ _ h1 h2=>exact .sat _ _ h1 (hp h2)
theorem VT.sat_of {w:World} {X:NP} {K:Nat} {p:Value->Prop} {v:Value} (h:VT w X K (.sat p) v):p v:=by
 cases h with
 | sat _ _ h1 h2=>exact h2
def genT (N F:Nat) (pv:Nat->Value) (qs:List Nat):List CT:=[.sat (fun v=>v=pv 0),.sl ay_,.num,.sl [.num],.sl [.num],.sl [.sat (idxP N),.sat (idxP F)],.sl [.txt],.num,.num,.sl [.sat (ptrP qs)]]
def genOw:Nat->Option TypeId:=fun j=>if j=1 then some 202 else if j=3\/j=4 then some 3 else if j=5 then some 200 else if j=9 then some 305 else none
def genK (N:Nat):Nat->Nat:=fun j=>if j=6 then 900000000 else if j=9 then 1000 else N+1
def genV (b N F:Nat) (pv:Nat->Value) (qs:List Nat):LV:=⟨b,genK N,genT N F pv qs,genOw⟩
def atOw:Nat->Option TypeId:=fun j=>if j=0 then some 3 else none
def atV (N q:Nat):LV:=⟨q,fun _=>N+1,[.sl [.sat (idxP N)]],atOw⟩
def X34 (cs:VL) (pv:Nat->Value):Prop:=(∃ A c e,cs[3]?=some (.slice A e c)/\pv 3=i_ (e:Nat))/\∃ A c e,cs[4]?=some (.slice A e c)/\pv 4=i_ (e:Nat)
theorem X34.set {cs:VL} {pv:Nat->Value} (h:X34 cs pv) {j:Nat} (v:Value) (h3:j≠3) (h4:j≠4):X34 (cs.set j v) pv:=by
 obtain ⟨⟨A,c,e,a1,a2⟩,A',c',e',b1,b2⟩:=h;exact ⟨⟨A,c,e,by rw [gs_,if_neg h3];exact a1,a2⟩,A',c',e',by rw [gs_,if_neg h4];exact b1,b2⟩
def GC (b F:Nat) (pv:Nat->Value) (qs:List Nat) (N M o:Nat) (G:NP) (w:World):Prop :=
 ∃ C,Fr (fun _=>False) G w (genV b N F pv qs :: qs.map (atV N)) G C w/\(∃ A c,(C b)[1]?=some (.slice A M c))/\(∃ A c,(C b)[9]?=some (.slice A o c))/\X34 (C b) pv
section
variable {b F N M o:Nat} {pv:Nat->Value} {qs:List Nat} {G:NP} {w w':World}
theorem GC.below (h:GC b F pv qs N M o G w) (hb:Below w w w'):GC b F pv qs N M o G w':=by
 obtain ⟨C,f,h1,h2⟩:=h;exact ⟨C,(f.call hb).root,h1,h2⟩
theorem GC.lt (h:GC b F pv qs N M o G w):∀ k,G k->k<w:=by obtain ⟨C,f,_⟩:=h;exact f.lt
theorem GC.raise {N':Nat} (h:GC b F pv qs N M o G w) (hN:N<=N'):GC b F pv qs N' M o G w:=by
 obtain ⟨C,f,h1,h2⟩:=h;refine ⟨C,f.weak t_ (fun i p q hp hq=>?_),h1,h2⟩;cases i with
 | zero =>
  simp at hp hq;subst hp hq;refine ⟨rfl,rfl,fun j=>?_,rfl,fun j t t' ht A1=>?_⟩
  ·show genK N j<=genK N' j
   unfold genK;split;omega;split <;> omega
  have ht:(genT N F pv qs)[j]?=some t:=ht;have A1:(genT N' F pv qs)[j]?=some t':=A1;by_cases h5:j=5
  ·subst h5;injection ht with ht;injection A1 with A1;subst ht A1;refine ⟨x_,fun _ e he=>⟨_,rfl,wk_,fun i s s' hs A0 X' K' v hv=>?_⟩⟩;injection he with he;subst he
   match i,hs,A0 with
   | 0,hs,A0=>injection hs with hs;injection A0 with A0;subst hs A0;exact hv.sat_up (fun h=>h.up hN)
   | 1,hs,A0=>injection hs with hs;injection A0 with A0;subst hs A0;exact hv
  have:t'=t:=by
   have:(genT N' F pv qs)[j]?=(genT N F pv qs)[j]?:=by
    match j,h5 with
    | 0,_=>rfl
    | 1,_=>rfl
    | 2,_=>rfl
    | 3,_=>rfl
    | 4,_=>rfl
    | 5,h=>exact absurd rfl h
    | 6,_=>rfl
    | 7,_=>rfl
    | 8,_=>rfl
    | 9,_=>rfl
    | j+10,_=>rfl
   rw [A1,ht] at this;injection this
  exact u1_
 | succ i =>
  simp at hp hq;obtain ⟨a,ha,rfl⟩:=hp;rw [ha] at hq;simp at hq;subst hq;refine ⟨rfl,rfl,fun j=>(by show N+1<=N'+1;omega),rfl,fun j t t' ht A1=>?_⟩;have ht:([.sl [.sat (idxP N)]]:List CT)[j]?=some t:=ht;have A1:([.sl [.sat (idxP N')]]:List CT)[j]?=some t':=A1
  match j,ht,A1 with
  | 0,ht,A1 =>
   injection ht with ht;injection A1 with A1;subst ht A1;refine ⟨x_,fun _ e he=>⟨_,rfl,wk_,fun i s s' hs A0 X' K' v hv=>?_⟩⟩;injection he with he;subst he
   match i,hs,A0 with
   | 0,hs,A0=>injection hs with hs;injection A0 with A0;subst hs A0;exact hv.sat_up (fun h=>h.up hN)
def KpC (b:Nat) (qs:List Nat) (j:Nat) (w w':World):Prop:=(∀ q ∈ qs,w'.cell? (a_ q)=w.cell? (a_ q))/\∀ i,i<10->i≠j->w'.cell? (f_ b i)=w.cell? (f_ b i)
theorem GC.own {e:List CT} {et:TypeId} {j:Nat} (h:GC b F pv qs N M o G w) (hj:(genT N F pv qs)[j]?=some (.sl e)) (ho:genOw j=some et):∃ A n c,w.cell? (f_ b j)=some (.slice A n c)/\n<=genK N j/\OwT w 0 et e G (genK N j) A n c/\(∀ g,(Value.slice A n c).ownBlock=some g->G g)/\(j=1->n=M)/\(j=9->n=o):=by
 obtain ⟨C,f,⟨A1,c1,h1⟩,⟨A9,c9,h9⟩,hx⟩:=h;obtain ⟨A,n,c,g1,g2,g3,g4,g5⟩:=f.own (i:=0) rfl hj ho;refine ⟨A,n,c,g1,g3,g4,g5,fun A0=>?_,fun A2=>?_⟩
 ·subst A0;rw [h1] at g2;injection g2 with g2;injection g2 with _ g2 _;exact g2.symm
 subst A2;rw [h9] at g2;injection g2 with g2;injection g2 with _ g2 _;exact g2.symm
theorem GC.cell {t:CT} {j:Nat} (h:GC b F pv qs N M o G w) (hj:(genT N F pv qs)[j]?=some t) (ho:genOw j=none):∃ v,w.cell? (f_ b j)=some v/\VT w G (genK N j) t v:=by
 obtain ⟨C,f,_⟩:=h;obtain ⟨v,_,g1,g2⟩:=f.get (i:=0) rfl hj ho;exact ⟨v,g1,g2⟩
theorem GC.fz (h:GC b F pv qs N M o G w) (j:Nat):w.frozen? (f_ b j)=false:=by
 obtain ⟨C,f,_⟩:=h;exact f.fz (i:=0) rfl j
theorem GC.blt (h:GC b F pv qs N M o G w):b<w:=by
 obtain ⟨C,f,_⟩:=h;exact f.blt (i:=0) rfl
theorem cr_ {L:List LV} {q N:Nat} (hq:q ∈ qs) (hL:L=genV b N F pv qs :: qs.map (atV N)):∃ i:Nat,L[i]?=some (⟨q,fun _=>N+1,[.sl [.sat (idxP N)]],atOw⟩:LV):=by
 subst hL;obtain ⟨i,hi⟩:=List.getElem?_of_mem hq;exact ⟨i+1,by rw [List.getElem?_cons_succ,List.getElem?_map,hi];rfl⟩
theorem GC.at_own {q:Nat} (h:GC b F pv qs N M o G w) (hq:q ∈ qs):∃ A n c,w.cell? (a_ q)=some (.slice A n c)/\n<=N+1/\OwT w 0 3 [.sat (idxP N)] G (N+1) A n c/\(∀ g,(Value.slice A n c).ownBlock=some g->G g)/\w.frozen? (a_ q)=false/\G q/\q≠b:=by
 obtain ⟨C,f,_⟩:=h;obtain ⟨i,hi⟩:=cr_ (b:=b) (F:=F) (pv:=pv) (N:=N) hq rfl;obtain ⟨A,n,c,g1,g2,g3,g4,g5⟩:=f.own (i:=i) hi (j:=0) rfl (show atOw 0=some 3 from rfl);refine ⟨A,n,c,g1,g3,g4,g5,f.fz hi 0,(f.blk _ (Fr.mem hi)).1,fun e=>?_⟩;have hn:=f.nd;rw [List.map_cons,List.nodup_cons] at hn;refine hn.1 (List.mem_map.2 ⟨atV N q,List.mem_map.2 ⟨q,hq,rfl⟩,e⟩)
theorem GC.kpc_of {X Z Y:NP} {w0 w1:World} {L:List LV} {C C':Nat->VL} {j:Nat} (hL:L=genV b N F pv qs :: qs.map (atV N)) {X' Z' Y':NP} {w0':World} (f:Fr X Z w0 L Y C w) (f':Fr X' Z' w0' L Y' C' w1) (hC:∀ k,k≠b->C' k=C k) (hb:∀ i,i≠j->(C' b)[i]?=(C b)[i]?):KpC b qs j w w1:=by
 refine ⟨fun q hq=>?_,fun i hi A1=>?_⟩
 ·obtain ⟨i,hi⟩:=cr_ (b:=b) (F:=F) (pv:=pv) (N:=N) hq hL;have A2:q≠b:=fun e=>by
   have hn:=f.nd;rw [hL,List.map_cons,List.nodup_cons] at hn;exact hn.1 (List.mem_map.2 ⟨atV N q,List.mem_map.2 ⟨q,hq,rfl⟩,e⟩)
  have A0:0<(C q).length:=by rw [f.len hi];simp
  rw [f.cell hi (ge_ A0),f'.cell hi (by rw [hC q A2];exact ge_ A0)]
 have h0:L[0]?=some ⟨b,genK N,genT N F pv qs,genOw⟩:=by rw [hL];rfl
 have A0:i<(C b).length:=by rw [f.len h0];exact hi
 rw [f.cell h0 (ge_ A0),f'.cell h0 (by rw [hb i A1];exact ge_ A0)]
theorem GC.grow {e:List CT} {et:TypeId} {j n n' c c':Nat} {A A':OA} (h:GC b F pv qs N M o G w) (hj:(genT N F pv qs)[j]?=some (.sl e)) (ho:genOw j=some et) (hc:w.cell? (f_ b j)=some (.slice A n c))
  (hO:OwT w' 0 et e G (genK N j) A' n' c') (hn:n'<=genK N j) (hg:w.grownBy w' (Value.slice A n c).ownBlock) (hloc:∀ g,(Value.slice A' n' c').ownBlock=some g->(Value.slice A n c).ownBlock=some g\/g=w) (h34:j≠3/\j≠4:=by decide) :
  ∃ G',GC b F pv qs N (if j=1 then n' else M) (if j=9 then n' else o) G' (w'.setCell (f_ b j) (.slice A' n' c'))/\Up w G (w'.setCell (f_ b j) (.slice A' n' c')) G'/\KpC b qs j w (w'.setCell (f_ b j) (.slice A' n' c')):=by
 obtain ⟨C,f,⟨A1,c1,h1⟩,⟨A9,c9,h9⟩,hx⟩:=h;obtain ⟨A2,n2,c2,g1,g2,_⟩:=f.own (i:=0) rfl hj ho;rw [hc] at g1;injection g1 with g1;injection g1 with q1 q2 q3;subst q1 q2 q3;obtain ⟨G',f',u'⟩:=f.append (i:=0) rfl hj ho g2 hO hn hg hloc;have A3:j<(C b).length:=(e_ g2).1;have A0:(upd C b ((C b).set j (.slice A' n' c'))) b=(C b).set j (.slice A' n' c'):=upd_same _ _ _;refine ⟨G',⟨_,f'.root,?_,?_,by rw [A0];exact hx.set _ h34.1 h34.2⟩,u',GC.kpc_of rfl f f' (fun k hk=>ad_ _ _ hk) (fun i hi=>by rw [A0,gs_,if_neg (fun e=>hi e.symm)])⟩
 ·by_cases hj1:j=1
  ·subst hj1;exact ⟨A',c',by rw [A0,gs_,if_pos rfl,if_pos A3];rfl⟩
  exact ⟨A1,c1,by rw [A0,gs_,if_neg hj1,if_neg hj1];exact h1⟩
 by_cases hj1:j=9
 ·subst hj1;exact ⟨A',c',by rw [A0,gs_,if_pos rfl,if_pos A3];rfl⟩
 exact ⟨A9,c9,by rw [A0,gs_,if_neg hj1,if_neg hj1];exact h9⟩
theorem GC.set {t:CT} {v:Value} {j:Nat} (h:GC b F pv qs N M o G w) (hj:(genT N F pv qs)[j]?=some t) (ho:genOw j=none) (hv:VT w G (genK N j) t v):GC b F pv qs N M o G (w.setCell (f_ b j) v)/\Up w G (w.setCell (f_ b j) v) G/\KpC b qs j w (w.setCell (f_ b j) v):=by
 obtain ⟨C,f,⟨A1,c1,h1⟩,⟨A9,c9,h9⟩,hx⟩:=h;obtain ⟨f',u'⟩:=f.set (i:=0) (j:=j) rfl hj ho hv;have A2:j≠1:=fun e=>by subst e;cases ho
 have A3:j≠9:=fun e=>by subst e;cases ho
 have A0:(upd C b ((C b).set j v)) b=(C b).set j v:=upd_same _ _ _;exact ⟨⟨_,f'.root,⟨A1,c1,by rw [A0,gs_,if_neg A2];exact h1⟩,⟨A9,c9,by rw [A0,gs_,if_neg A3];exact h9⟩,by rw [A0];exact hx.set _ (fun e=>by subst e;cases ho) (fun e=>by subst e;cases ho)⟩,u',GC.kpc_of rfl f f' (fun k hk=>ad_ _ _ hk) (fun i hi=>by rw [A0,gs_,if_neg (fun e=>hi e.symm)])⟩
theorem GC.at_grow {q n n' c c':Nat} {A A':OA} (h:GC b F pv qs N M o G w) (hq:q ∈ qs) (hc:w.cell? (a_ q)=some (.slice A n c))
  (hO:OwT w' 0 3 [.sat (idxP N)] G (N+1) A' n' c') (hn:n'<=N+1) (hg:w.grownBy w' (Value.slice A n c).ownBlock) (hloc:∀ g,(Value.slice A' n' c').ownBlock=some g->(Value.slice A n c).ownBlock=some g\/g=w) :
  ∃ G',GC b F pv qs N M o G' (w'.setCell (a_ q) (.slice A' n' c'))/\Up w G (w'.setCell (a_ q) (.slice A' n' c')) G':=by
 have A0:q≠b:=by obtain ⟨_,_,_,_,_,_,_,_,_,h⟩:=h.at_own hq;exact h
 obtain ⟨C,f,⟨A1,c1,h1⟩,⟨A9,c9,h9⟩,hx⟩:=h;obtain ⟨i,hi⟩:=cr_ (b:=b) (F:=F) (pv:=pv) (N:=N) hq rfl;obtain ⟨A2,n2,c2,g1,g2,_⟩:=f.own (i:=i) hi (j:=0) rfl (show atOw 0=some 3 from rfl);rw [hc] at g1;injection g1 with g1;injection g1 with q1 q2 q3;subst q1 q2 q3;obtain ⟨G',f',u'⟩:=f.append (i:=i) hi (j:=0) rfl (show atOw 0=some 3 from rfl) g2 hO hn hg hloc;exact ⟨G',⟨_,f'.root,⟨A1,c1,by rw [ad_ _ _ A0.symm];exact h1⟩,⟨A9,c9,by rw [ad_ _ _ A0.symm];exact h9⟩,by rw [ad_ _ _ A0.symm];exact hx⟩,u'⟩
theorem GC.new_at (h:GC b F pv qs N M o G w) (ty:TypeId):∃ G',GC b F pv (w.heap.size :: qs) N M o G' (w.alloc (.cells #[.slice none 0 0] ty))/\Up w G (w.alloc (.cells #[.slice none 0 0] ty)) G':=by
 have A4:=h.blt;obtain ⟨C,f,⟨A1,c1,h1⟩,⟨A9,c9,h9⟩,hx⟩:=h;obtain ⟨G',f',u'⟩:=f.add (fun _=>N+1) [.sl [.sat (idxP N)]] atOw [.slice none 0 0] ty rfl (fun j t hj=>by
  match j,hj with
  | 0,hj=>injection hj with hj;subst hj;exact ⟨_,rfl,.inr ⟨_,_,rfl,rfl,rfl⟩⟩)
 have f2:=f'.swap;have f3:Fr (fun _=>False) G w (genV b N F pv (w.heap.size :: qs) :: (w.heap.size :: qs).map (atV N)) G' (upd C w.heap.size [.slice none 0 0]) (w.alloc (.cells #[.slice none 0 0] ty)):=by
  refine f2.weak t_ (fun i p q hp hq=>?_);cases i with
  | zero =>
   simp at hp hq;subst hp hq;refine ⟨rfl,rfl,fun j=>l_,rfl,fun j t t' ht A2=>?_⟩;have ht:(genT N F pv qs)[j]?=some t:=ht;have A2:(genT N F pv (w.heap.size :: qs))[j]?=some t':=A2;by_cases h9:j=9
   ·subst h9;injection ht with ht;injection A2 with A2;subst ht A2;refine ⟨x_,fun _ e he=>⟨_,rfl,wk_,fun i s s' hs A0 X' K' v hv=>?_⟩⟩;injection he with he;subst he
    match i,hs,A0 with
    | 0,hs,A0=>injection hs with hs;injection A0 with A0;subst hs A0;exact hv.sat_up (fun h=>h.up (fun q hq=>.tail _ hq))
   have:t'=t:=by
    have:(genT N F pv (w.heap.size :: qs))[j]?=(genT N F pv qs)[j]?:=by
     match j,h9 with
     | 0,_=>rfl
     | 1,_=>rfl
     | 2,_=>rfl
     | 3,_=>rfl
     | 4,_=>rfl
     | 5,_=>rfl
     | 6,_=>rfl
     | 7,_=>rfl
     | 8,_=>rfl
     | 9,h=>exact absurd rfl h
     | j+10,_=>rfl
    rw [A2,ht] at this;injection this
   exact u1_
  | succ i =>
   have A3:p=q:=by
    cases i with
    | zero=>simp at hp hq;rw [<-hp,<-hq];rfl
    | succ i=>simp at hp hq;obtain ⟨a,ha,rfl⟩:=hp;rw [ha] at hq;simpa using hq
   subst A3;exact ⟨rfl,rfl,fun j=>l_,rfl,fun j t t' ht A2=>by
    rw [ht] at A2;injection A2 with A2;subst A2
    exact ⟨fun _ v h=>h,fun _ e he=>⟨e,he,rfl,fun i s s' hs A0 X' K' v hv=>by rw [hs] at A0;injection A0 with A0;subst A0;exact hv⟩⟩⟩
 exact ⟨G',⟨_,f3.root,⟨A1,c1,by rw [ad_ _ _ o_];exact h1⟩,⟨A9,c9,by rw [ad_ _ _ o_];exact h9⟩,by rw [ad_ _ _ o_];exact hx⟩,u'⟩
theorem GC.patch {g c k q:Nat} {n:Int} (h:GC b F pv qs N M o G w) (hc:w.cell? (f_ b 1)=some (.slice (some (a_ g)) M c)) (hk:k<M) (hq:q<5) (ad:Addr) (had:ad=⟨g,k*5+q,none⟩):GC b F pv qs N M o G (w.setCell ad (i_ n))/\Up w G (w.setCell ad (i_ n)) G/\KpC b qs 10 w (w.setCell ad (i_ n)):=by
 obtain ⟨C,f,⟨A1,c1,h1⟩,⟨A9,c9,h9⟩,hx⟩:=h;have A0:=f.cell (i:=0) rfl h1;rw [hc] at A0;injection A0 with A0;injection A0 with q1 q2 q3;subst q1 q3;obtain ⟨f',u'⟩:=f.row_set (i:=0) (j:=1) (e:=ay_) (et:=202) rfl rfl rfl h1 hk (q:=q) (t':=.num) (by
  match q,hq with
  | 0,_=>rfl
  | 1,_=>rfl
  | 2,_=>rfl
  | 3,_=>rfl
  | 4,_=>rfl) (u:=.int .i64 n) (.num _) ad had
 exact ⟨⟨C,f'.root,⟨_,_,h1⟩,⟨A9,c9,h9⟩,hx⟩,u',GC.kpc_of (j:=10) rfl f f' (fun _ _=>rfl) (fun _ _=>rfl)⟩
theorem GC.len34 (h:GC b F pv qs N M o G w):(∃ A c e,w.cell? (f_ b 3)=some (.slice A e c)/\pv 3=i_ (e:Nat))/\∃ A c e,w.cell? (f_ b 4)=some (.slice A e c)/\pv 4=i_ (e:Nat):=by
 obtain ⟨C,f,_,_,⟨A,c,e,a1,a2⟩,A',c',e',b1,b2⟩:=h;exact ⟨⟨A,c,e,f.cell (i:=0) rfl a1,a2⟩,A',c',e',f.cell (i:=0) rfl b1,b2⟩
def upv (pv:Nat->Value) (j n:Nat):Nat->Value:=fun i=>if i=j then i_ (n:Int) else pv i
theorem GC.grow34 {j n n' c c':Nat} {A A':OA} (h:GC b F pv qs N M o G w) (hj:j=3\/j=4) (hc:w.cell? (f_ b j)=some (.slice A n c))
  (hO:OwT w' 0 3 [.num] G (N+1) A' n' c') (hn:n'<=N+1) (hg:w.grownBy w' (Value.slice A n c).ownBlock) (hloc:∀ g,(Value.slice A' n' c').ownBlock=some g->(Value.slice A n c).ownBlock=some g\/g=w) :
  ∃ G',GC b F (upv pv j n') qs N M o G' (w'.setCell (f_ b j) (.slice A' n' c'))/\Up w G (w'.setCell (f_ b j) (.slice A' n' c')) G'/\KpC b qs j w (w'.setCell (f_ b j) (.slice A' n' c')):=by
 have A5:(genT N F pv qs)[j]?=some (.sl [.num])/\genOw j=some 3/\genK N j=N+1/\j≠1/\j≠9:=by rcases hj with rfl | rfl <;> exact ⟨rfl,rfl,rfl,d_,d_⟩
 obtain ⟨e1,e2,e3,e4,e5⟩:=A5;obtain ⟨C,f,⟨A1,c1,h1⟩,⟨A9,c9,h9⟩,hx⟩:=h;obtain ⟨A2,n2,c2,g1,g2,_⟩:=f.own (i:=0) rfl e1 e2;rw [hc] at g1;injection g1 with g1;injection g1 with q1 q2 q3;subst q1 q2 q3;obtain ⟨G',f',u'⟩:=f.append (i:=0) rfl e1 e2 g2 (by rw [e3];exact hO) (by rw [e3];exact hn) hg hloc;have A4:j<(C b).length:=(e_ g2).1;have A0:(upd C b ((C b).set j (.slice A' n' c'))) b=(C b).set j (.slice A' n' c'):=upd_same _ _ _;have A3:genV b N F (upv pv j n') qs=genV b N F pv qs:=by
  unfold genV genT upv;have:(0:Nat)≠j:=by rcases hj with rfl | rfl <;> decide
  rw [if_neg this]
 refine ⟨G',⟨_,by rw [A3];exact f'.root,⟨A1,c1,by rw [A0,gs_,if_neg e4];exact h1⟩,⟨A9,c9,by rw [A0,gs_,if_neg e5];exact h9⟩,?_⟩,u',GC.kpc_of rfl f f' (fun k hk=>ad_ _ _ hk) (fun i hi=>by rw [A0,gs_,if_neg (fun e=>hi e.symm)])⟩;rw [A0];obtain ⟨⟨B3,b3,m3,a1,a2⟩,B4,b4,m4,b1,b2⟩:=hx;rcases hj with rfl | rfl
 ·exact ⟨⟨A',c',n',by rw [gs_,if_pos rfl,if_pos A4],by simp [upv]⟩,B4,b4,m4,by rw [gs_,if_neg d_];exact b1,by simp [upv];exact b2⟩
 exact ⟨⟨B3,b3,m3,by rw [gs_,if_neg d_];exact a1,by simp [upv];exact a2⟩,A',c',n',by rw [gs_,if_pos rfl,if_pos A4],by simp [upv]⟩
theorem GC.start (w:World) (b F:Nat) (hb:b=w) (PA:OA) (pn pc:Nat) (ty:TypeId):∃ G,GC b F (fun i=>if i=0 then .slice PA pn pc else i_ 0) [] 0 0 0 G (w.alloc (.cells #[.slice PA pn pc,.slice none 0 0,i_ 0,.slice none 0 0,.slice none 0 0,.slice none 0 0,.slice none 0 0,i_ 0,i_ 0,.slice none 0 0] ty))/\Up w (fun _=>False) (w.alloc (.cells #[.slice PA pn pc,.slice none 0 0,i_ 0,.slice none 0 0,.slice none 0 0,.slice none 0 0,.slice none 0 0,i_ 0,i_ 0,.slice none 0 0] ty)) G:=by
 subst hb;have f0:=Fr.nil (X:=fun _=>False) (w:=w) (fun _ h=>h.elim) (fun _=>False) (fun _=>[]);obtain ⟨G,f,u⟩:=f0.add (genK 0) (genT 0 F (fun i=>if i=0 then .slice PA pn pc else i_ 0) []) genOw [.slice PA pn pc,.slice none 0 0,i_ 0,.slice none 0 0,.slice none 0 0,.slice none 0 0,.slice none 0 0,i_ 0,i_ 0,.slice none 0 0] ty rfl (fun j t hj=>by
  have A1:j<10:=(e_ hj).1
  match j,A1,hj with
  | 0,_,hj=>injection hj with hj;subst hj;exact ⟨_,rfl,.inl ⟨rfl,.sat _ _ rfl rfl⟩⟩
  | 1,_,hj=>injection hj with hj;subst hj;exact ⟨_,rfl,.inr ⟨_,_,rfl,rfl,rfl⟩⟩
  | 2,_,hj=>injection hj with hj;subst hj;exact ⟨_,rfl,.inl ⟨rfl,.num _⟩⟩
  | 3,_,hj=>injection hj with hj;subst hj;exact ⟨_,rfl,.inr ⟨_,_,rfl,rfl,rfl⟩⟩
  | 4,_,hj=>injection hj with hj;subst hj;exact ⟨_,rfl,.inr ⟨_,_,rfl,rfl,rfl⟩⟩
  | 5,_,hj=>injection hj with hj;subst hj;exact ⟨_,rfl,.inr ⟨_,_,rfl,rfl,rfl⟩⟩
  | 6,_,hj=>injection hj with hj;subst hj;exact ⟨_,rfl,.inl ⟨rfl,.nil _⟩⟩
  | 7,_,hj=>injection hj with hj;subst hj;exact ⟨_,rfl,.inl ⟨rfl,.num _⟩⟩
  | 8,_,hj=>injection hj with hj;subst hj;exact ⟨_,rfl,.inl ⟨rfl,.num _⟩⟩
  | 9,_,hj=>injection hj with hj;subst hj;exact ⟨_,rfl,.inr ⟨_,_,rfl,rfl,rfl⟩⟩)
 have A0:(upd (fun _=>[]) w [.slice PA pn pc,.slice none 0 0,i_ 0,.slice none 0 0,.slice none 0 0,.slice none 0 0,.slice none 0 0,i_ 0,i_ 0,.slice none 0 0]) (w:Nat)=([.slice PA pn pc,.slice none 0 0,i_ 0,.slice none 0 0,.slice none 0 0,.slice none 0 0,.slice none 0 0,i_ 0,i_ 0,.slice none 0 0]:VL):=upd_same _ _ _;exact ⟨G,⟨_,f.root,⟨none,0,x0_⟩,⟨none,0,x0_⟩,⟨none,0,0,x0_,rfl⟩,none,0,0,x0_,rfl⟩,u⟩
end
end Go.Proofs.YtfolidlmgfhkiaaGreat
namespace Go.Proofs.YtfolidlmgfhkiaaGreat
open Go.RowKit Go.Proofs.Tryz
theorem Mv.broken {l:List In} {pc:Int} {vs:VL} (h:vs[81]?=some (.bool true)):Mv l pc vs:=fun _ _ _ _ h3=>by rw [h] at h3;cases h3
theorem dx_ {X Z Y:NP} {w0:World} {LL:List LV} {b K L:Nat} {l:List In} {pc:Int} {C:Nat->VL} (w:World) (h:OneS X Z w0 LL b K L l pc Y C w) (hK:K<=1000000000) (hL:L<=100000) (id f:Int) :
  Calls prog 124 #[.pointer (some (a_ b)),i_ id,i_ f] w fun e w'=>(∃ v:Val,e=.returned (.agg #[.bool v.ref,i_ v.n]))/\Ms X Z w0 LL b K (L+1) l pc Y C w w' (fun j=>j≠72/\j≠81):=by
 obtain ⟨i0,z0,Aq,As,Ar,Ap,Au⟩:=ei_cell.hi;obtain ⟨A0,n0,c0,_,Af,Ai,_,_⟩:=h.fr.own (i:=0) rfl (j:=72) (e:=aq_) (et:=87) rfl rfl;have AD:n0<=L:=Ai;have HS:=q_ (h.raise (Nat.le_succ L));obtain ⟨W,Y1,C1,hW,Ax,u1,f1,c1,cO⟩:=HS.o.fr.add1 0 valT [.bool false,i_ 0] 38 (vtsval _ _);have AC:=HS.o.fr.blt (i:=0) rfl;obtain ⟨HA,hn,hc,Av,hH,Am⟩:=f1.slc (i:=1) rfl (j:=36) (e:=objT) rfl rfl;have HH:=h_ (SlT W Y1 K objT HA hn hc) hH;have F1:=q_ f1;have U1:=q_ u1;have Ak:=q_ c1;have Ae:=q_ cO;have Aj:=q_ Af;clear h f1 u1 c1 cO hH Ai Af Am;go_enter func124,ntmps124;go_upto_region 1 with fail;rw [<-hW];clear hW;go_wp2_with fail;refine (Read_t Y1 K HA hn hc id f W HH.o o_).mono ?_;rintro e S ⟨⟨v,ok,rfl⟩,hS⟩;have F2:=q_ (F1.o.call hS);have U2:=q_ (U1.o.trans (Up.of_below hS));clear hS Av;obtain ⟨V,Y3,C3,hV,Ao,u3,f3,c3,A8⟩:=F2.o.add1 0 valT [.bool v.ref,i_ v.n] 38 (vtsval _ _);have AB:=F2.o.blt (i:=1) rfl;have AE:=F2.o.blt (i:=0) rfl;have Ad:=f3.tru (i:=2) rfl (j:=81) rfl rfl;obtain ⟨bk,Ad,_⟩:=Ad;have eb:C3 b=C b:=by rw [A8 b o_,Ae.o b o_]
 have er:C3 w=[.bool false,i_ 0]:=by rw [A8 _ o_];exact Ak.o
 have U3:=q_ (U2.o.trans u3);have F3:=q_ f3;have A2:=q_ eb;have A3:=q_ er;have A7:=q_ c3;have Aa:=h_ (∀ q,q<w.heap.size->C3 q=C q) (fun q hq=>by rw [A8 q o_,Ae.o q o_]);have v0:=f3.cell (i:=0) rfl (j:=0) (by rw [c3];rfl);have v1:=f3.cell (i:=0) rfl (j:=1) (by rw [c3];rfl);have r0:=f3.cell (i:=1) rfl (j:=0) (by rw [er];rfl);have r1:=f3.cell (i:=1) rfl (j:=1) (by rw [er];rfl);have fr:=f3.fz (i:=1) rfl;have fb:=f3.fz (i:=2) rfl;clear u3 f3 c3 A8 eb er Ao;go_upto_region 2 with fail;rw [<-hV];clear hV;cases ok
 ·obtain ⟨f4,u4⟩:=F3.o.set (i:=2) (j:=81) (t:=.tru) (v:=.bool true) rfl rfl rfl (.tru _);obtain ⟨f5,u5⟩:=f4.set (i:=1) (j:=0) (t:=.tru) (v:=.bool false) rfl rfl rfl (.tru _);obtain ⟨f6,u6⟩:=f5.set (i:=1) (j:=1) (t:=.num) (v:=i_ 0) rfl rfl rfl (.num _);go_wp2;refine retC results124 zc_ underlying38 rfl (f6.info (i:=1) rfl isz_38) (f6.box (i:=1) rfl).whole rfl ?_;have hne:w≠b:=by omega
  have A1:b≠w:=by omega
  refine ⟨⟨⟨false,0⟩,?_⟩,Y3,_,HS.o.go (LL':=LL) f6.tail.tail (((U3.o.trans u4).trans u5).trans u6) (fun j hj=>?_) (fun _=>Mv.broken ?_),((U3.o.trans u4).trans u5).trans u6,fun q hq A6=>?_,fun j hj=>?_⟩
  ·rw [upd_same,upd_same,ad_ _ _ hne,A3.o];rfl
  ·exact uo_
  ·rw [ad_ _ _ A1,ad_ _ _ A1,upd_same,gs_,if_pos rfl,if_pos (by have:=F3.o.len (i:=2) rfl;rw [this];decide)]
  ·rw [ad_ _ _ o_,ad_ _ _ o_,ad_ _ _ hq,Aa.o q A6]
  exact uo_
 obtain ⟨A,n,c,Ac,hC,hn,hO,hY⟩:=F3.o.own (i:=2) rfl (j:=72) (e:=aq_) (et:=87) rfl rfl;have A9:=hC;rw [A2.o,Aj.o] at A9;injection A9 with A9;injection A9 with q1 q2 q3;subst q1 q2 q3;have HC:=q_ hC;have HY:=q_ hY;have HO:=h_ (OwT V 0 87 aq_ Y3 (L+1) A0 n0 c0) hO;have HL:=q_ (HO.o.any (by omega:n0<=L+1));have KS:=h_ (∀ w',Below V V w'->(w'.cell? (a_ S)=some (.bool v.ref)/\w'.cell? (f_ S 1)=some (i_ v.n)/\w'.cell? (a_ w)=some (.bool false)/\w'.cell? (f_ w 1)=some (i_ 0)/\(∀ j,w'.frozen? (f_ w j)=false)/\w'.cell? (f_ b 72)=some (.slice A0 n0 c0))) (fun w' hb=>by
  have F':=F3.o.call hb
  exact ⟨F'.cell (i:=0) rfl (j:=0) (by rw [A7.o];rfl),F'.cell (i:=0) rfl (j:=1) (by rw [A7.o];rfl),F'.cell (i:=1) rfl (j:=0) (by rw [A3.o];rfl),F'.cell (i:=1) rfl (j:=1) (by rw [A3.o];rfl),F'.fz (i:=1) rfl,F'.cell (i:=2) rfl HC.o⟩)
 clear hn hC hO hY Ad v0 v1 r0 r1 fr fb;go_upto_region 6 with fail;clear Ac;go_loopw [33] (fun i wr=>∃ k:Nat,k<=n0/\i=i_ k/\Below V V wr) (fun i _=>n0 - (intOf i).toNat)
 case atStart=>exact ⟨0,o_,rfl,b_⟩
 obtain ⟨k,hk,rfl,hb⟩:=hrel;have HB:=q_ hb;by_cases hlt:k<n0
 ·have Ab:(k:Int)<(n0:Int):=by omega
  obtain ⟨g,o,hA,hg,x,hx⟩:=HL.o.ds_ hlt;subst hA;obtain ⟨c4,c5,c6,c7⟩:=hx wr hb;obtain ⟨S1,Ag,Ah,An,S0⟩:=ag_ wr [i_ x.id,i_ x.field,.bool x.ref,i_ x.n] 87;have s0:=S0.2.1 0 _ rfl;have s1:=S0.2.1 1 _ rfl;have A4:=q_ (hb.trans (Ah.mono hb.size));obtain ⟨v0,v1,r0,r1,fr,_⟩:=KS.o S1 A4.o;clear hx hb Ah An S0;go_upto_region 8 with fail;rw [<-Ag];clear Ag c4 c5 c6 c7;by_cases h1:x.id=id
  ·by_cases h2:x.field=f
   ·have F5:=F3.o.call A4.o;obtain ⟨f6,u6⟩:=F5.set (i:=1) (j:=0) (t:=.tru) (v:=.bool v.ref) rfl rfl rfl (.tru _);obtain ⟨f7,u7⟩:=f6.set (i:=1) (j:=1) (t:=.num) (v:=i_ v.n) rfl rfl rfl (.num _);go_wp2;refine retC results124 zc_ underlying38 rfl (f7.info (i:=1) rfl isz_38) (f7.box (i:=1) rfl).whole rfl ?_;have hne:w≠b:=by omega
    have A1:b≠w:=by omega
    refine ⟨⟨v,?_⟩,Y3,_,HS.o.go (LL':=LL) f7.tail.tail (((U3.o.trans (.of_below A4.o)).trans u6).trans u7) (fun j hj=>?_) (fun hm=>?_),((U3.o.trans (.of_below A4.o)).trans u6).trans u7,fun q hq A6=>?_,fun j hj=>?_⟩
    ·rw [upd_same,upd_same,A3.o];rfl
    ·rw [ad_ _ _ A1,ad_ _ _ A1,A2.o]
    ·rw [ad_ _ _ A1,ad_ _ _ A1,A2.o];exact hm
    ·rw [ad_ _ _ o_,ad_ _ _ o_,Aa.o q A6]
    rw [ad_ _ _ A1,ad_ _ _ A1,A2.o]
   go_wp2;go_roundw
   case rel=>exact ⟨k+1,o_,za_,A4.o⟩
   case measure=>exact me_
  go_wp2;go_roundw
  case rel=>exact ⟨k+1,o_,za_,A4.o⟩
  case measure=>exact me_
 have Ab:¬(k:Int)<(n0:Int):=by omega
 have F4:=q_ (F3.o.call hb);have U4:=q_ (U3.o.trans (Up.of_below hb));have HA:=h_ (Below wr wr (wr.drew.alloc (.cells #[i_ id,i_ f,.bool v.ref,i_ v.n] 87))) ((Below.drew (b_)).alloc (l_) _);have Al:=h_ (OwT (wr.drew.alloc (.cells #[i_ id,i_ f,.bool v.ref,i_ v.n] 87)) 0 87 aq_ Y3 (L+1) A0 n0 c0) ((HO.o.below hb).below HA.o);have HU:=h_ (SlT (wr.drew.alloc (.cells #[i_ id,i_ f,.bool v.ref,i_ v.n] 87)) (Wi Y3 (Value.slice A0 n0 c0).ownBlock) (L+1) aq_ (some (a_ wr)) 1 1) ((SlT.lit1 (w:=wr.drew) (e:=aq_) (eg_ id f v.ref v.n) _ (fun h=>Nat.lt_irrefl _ (F4.o.lt _ h)) o_).kept (Kp.refl _ _) (fun k _ h1 h2=>h2.elim h1 (fun h3=>h1 (HY.o k h3))) (l_));have HG:=h_ (∀ w',(wr.drew.alloc (.cells #[i_ id,i_ f,.bool v.ref,i_ v.n] 87)).grownBy w' (Value.slice A0 n0 c0).ownBlock->(Bx w' b (C3 b)/\∀ (i:Nat) (p:LV),(⟨S,fun _=>0,valT,noOw⟩ :: ⟨w,fun _=>0,valT,noOw⟩ :: oneL b K (L+1) :: LL:List LV)[i]?=some p->Bx w' p.b (C3 p.b))) (fun w' g'=>by
  have A5:=fun (i:Nat) (p:LV) (hp:(⟨S,fun _=>0,valT,noOw⟩ :: ⟨w,fun _=>0,valT,noOw⟩ :: oneL b K (L+1) :: LL:List LV)[i]?=some p)=>(F4.o.call HA.o).grown_any (j:=72) (i:=2) (t:=.sl aq_) (et:=87) rfl rfl rfl HC.o g' i p hp
  exact ⟨A5 2 _ rfl,A5⟩)
 obtain ⟨v0,v1,r0,r1,fr,Ac⟩:=KS.o wr hb;have Az:=F4.o.blt (i:=2) rfl;have Ay:=F4.o.blt (i:=1) rfl;have AA:=F4.o.blt (i:=0) rfl;clear hb;go_upto_region 11 with fail;go_region_law (refine bt_ rfl (.tmp 54) (.tmp 59) 54 rfl 0 87 i0 _ 32 aq_ Y3 (L+1) underlying54 Aq As Ar Ap Au d_ A0 n0 c0 v_ Al.o (some (a_ wr)) 1 1 v_ HU.o (fun k hk=>lt_ (F4.o.lt k hk) HA.o.size) m_ o_ (Nat.zero_le _) ?_;intro A' c' w' o' g' l';have O':=q_ o';have G':=q_ g';have L':=q_ l';have BX:=HG.o w' g';have Aw:=BX.1.2.1 72 _ HC.o;have yf:=BX.1.2.2;have yv:=BX.2 0 _ rfl;have yr:=BX.2 1 _ rfl;clear o' g' l' Ac v0 v1 r0 r1 fr);all_goals
  obtain ⟨YY,f5,u5⟩:=(F4.o.call HA.o).append (i:=2) (j:=72) rfl (e:=aq_) rfl (et:=87) rfl HC.o O'.out (show n0+1<=L+1 by omega) G'.out L'.out;have AI:=f5.cell (i:=0) rfl (j:=0) (v:=.bool v.ref) (by rw [ad_ _ _ o_,A7.o];rfl);have AJ:=f5.cell (i:=0) rfl (j:=1) (v:=i_ v.n) (by rw [ad_ _ _ o_,A7.o];rfl);have AF:=f5.cell (i:=1) rfl (j:=0) (v:=.bool false) (by rw [ad_ _ _ o_,A3.o];rfl);have AG:=f5.cell (i:=1) rfl (j:=1) (v:=i_ 0) (by rw [ad_ _ _ o_,A3.o];rfl);have AH:=f5.fz (i:=1) rfl;have UA:=q_ ((U4.o.trans (.of_below HA.o)).trans u5);clear BX Aw yf yv yr;obtain ⟨f6,u6⟩:=f5.set (i:=1) (j:=0) (t:=.tru) (v:=.bool v.ref) rfl rfl rfl (.tru _);obtain ⟨f7,u7⟩:=f6.set (i:=1) (j:=1) (t:=.num) (v:=i_ v.n) rfl rfl rfl (.num _);go_wp2;refine retC results124 zc_ underlying38 rfl (f7.info (i:=1) rfl isz_38) (f7.box (i:=1) rfl).whole rfl ?_;have hne:w≠b:=by omega
  have A1:b≠w:=by omega
  refine ⟨⟨v,?_⟩,YY,_,HS.o.go (LL':=LL) f7.tail.tail ((UA.o.trans u6).trans u7) (fun j hj=>?_) (fun hm=>?_),(UA.o.trans u6).trans u7,fun q hq A6=>?_,fun j hj=>?_⟩
  ·rw [upd_same,upd_same,ad_ _ _ hne,A3.o];rfl
  ·exact uo_
  ·intro kd p h1 h2 h3;rw [ad_ _ _ A1,ad_ _ _ A1,upd_same,gs_,if_neg o_,A2.o] at h1 h2 h3;exact hm kd p h1 h2 h3
  ·rw [ad_ _ _ o_,ad_ _ _ o_,ad_ _ _ hq,Aa.o q A6]
  exact uo_
theorem ei_ins:EI prog 24 202 ay_ 40:=EI.of (z:=.agg #[i_ 0,i_ 0,i_ 0,i_ 0,i_ 0]) underlying24 k_ rfl d_
section
variable {b F N M o:Nat} {pv:Nat->Value} {qs:List Nat} {G:NP} {w w':World}
theorem GC.grown {e:List CT} {et:TypeId} {j n c:Nat} {A:OA} (h:GC b F pv qs N M o G w) (hj:(genT N F pv qs)[j]?=some (.sl e)) (ho:genOw j=some et) (hc:w.cell? (f_ b j)=some (.slice A n c)) (hg:w.grownBy w' (Value.slice A n c).ownBlock) :
  (∀ i,i<10->w'.cell? (f_ b i)=w.cell? (f_ b i))/\(∀ i,w'.frozen? (f_ b i)=false)/\∀ q ∈ qs,w'.cell? (a_ q)=w.cell? (a_ q)/\w'.frozen? (a_ q)=false:=by
 obtain ⟨C,f,_⟩:=h;obtain ⟨A2,n2,c2,g1,g2,_⟩:=f.own (i:=0) rfl hj ho;rw [hc] at g1;injection g1 with g1;injection g1 with q1 q2 q3;subst q1 q2 q3;have hb:=f.cx_ (i:=0) rfl hj ho g2 hg;refine ⟨fun i hi=>?_,hb.2.2,fun q hq=>?_⟩
 ·have A0:i<(C b).length:=by rw [f.len (i:=0) rfl];exact hi
  rw [f.cell (i:=0) rfl (ge_ A0),hb.2.1 i _ (ge_ A0)]
 obtain ⟨i,hi⟩:=cr_ (b:=b) (F:=F) (pv:=pv) (N:=N) hq rfl;have A1:=f.grown_any (i:=0) rfl hj ho g2 hg i _ hi;have A0:0<(C q).length:=by rw [f.len hi];simp
 exact ⟨by rw [f.cell hi (ge_ A0)];exact A1.2.1 0 _ (ge_ A0),A1.2.2 0⟩
theorem lit_ins {Y:NP} {K:Nat} (x0 x1 x2 x3 x4:Int) (h:¬Y w) (hK:1<=K):SlT (w.alloc (.cells #[i_ x0,i_ x1,i_ x2,i_ x3,i_ x4] 202)) Y K ay_ (some (a_ w)) 1 1 :=
 SlT.lit1 (VTs.cons (.num _) (VTs.cons (.num _) (VTs.cons (.num _) (VTs.cons (.num _) (VTs.cons (.num _) VTs.nil))))) 202 h hK
end
theorem du_ {w:World} {base:Nat} {et:TypeId} {e:List CT} {X:NP} {K m c g:Nat} (h:OwT w base et e X K (some (a_ g)) m c) (k j:Nat) {t:CT} (hk:k<m) (hj:e[j]?=some t):(∃ u,w.cell? ⟨g,k*e.length+j,none⟩=some u)/\∀ q,w.frozen? (f_ g q)=false:=by
 obtain ⟨xs,ho,hx⟩:=h;obtain ⟨u,hu,_⟩:=hx k j t hk hj;have A1:j<e.length:=(e_ hj).1;have A0:k*e.length+j<m*e.length:=by
  exact ue_
 exact ⟨⟨u,wz_⟩,fun q=>ho.frozenAt q⟩
def putX (b N:Nat) (w:World):NP:=fun k=>k=b\/∃ A c,w.cell? (f_ b 1)=some (.slice A N c)/\(Value.slice A N c).ownBlock=some k
def RPut (b F:Nat) (pv:Nat->Value) (qs:List Nat) (N o:Nat) (G:NP) (w:World) (e:Ending) (w':World):Prop:=e=.returned (i_ (N:Int))/\∃ G',Hid (GC b F pv qs (N+1) (N+1) o G' w')/\Hid (Up w G w' G')/\Hid (KpC b qs 1 w w')/\Hid (Kp (putX b N w) w w')
theorem bx_ (b F:Nat) (pv:Nat->Value) (qs:List Nat) (N o:Nat) (G:NP) (w:World) (h:GC b F pv qs N N o G w) (hN:N<=10000000000) (x0 x1 x2 x3 x4:Int) :
  Calls prog 112 #[.pointer (some (a_ b)),i_ x0,i_ x1,i_ x2,i_ x3,i_ x4] w fun e w'=>RPut b F pv qs N o G w e w':=by
 have h1:=h.raise (N':=N+1) o_;obtain ⟨A,n,c,hc,hn,hO,hG,A9,_⟩:=h1.own (j:=1) rfl rfl;obtain rfl:n=N:=A9 rfl;have A0:Below w w (w.alloc (.cells #[i_ x0,i_ x1,i_ x2,i_ x3,i_ x4] 202)):=(b_).alloc (l_) _;have H1:=q_ (h1.below A0);have HB:=q_ A0;have A4:=h.blt;have A7:(w.alloc (.cells #[i_ x0,i_ x1,i_ x2,i_ x3,i_ x4] 202)).cell? (f_ b 1)=some (.slice A n c):=(belc A0 A4).trans hc;have A1:=q_ A7;have HO:=h_ (OwT (w.alloc (.cells #[i_ x0,i_ x1,i_ x2,i_ x3,i_ x4] 202)) 0 202 ay_ G (n+2) A n c) (hO.below A0);have HU:=h_ (SlT (w.alloc (.cells #[i_ x0,i_ x1,i_ x2,i_ x3,i_ x4] 202)) (Wi G (Value.slice A n c).ownBlock) (n+2) ay_ (some (a_ w)) 1 1) (lit_ins x0 x1 x2 x3 x4 (fun hx=>by
  rcases hx with hx | hx
  ·exact Nat.lt_irrefl _ (h.lt _ hx)
  exact Nat.lt_irrefl _ (h.lt _ (hG _ hx))) o_)
 have A3:=q_ h.lt;have Ab:=q_ hc;clear h h1 hO hG A0 A7 A9;go_enter func112,ntmps112;go_upto_region 2 with (at_builtin;refine cw_ rfl _ _ rfl ei_ins zb_ HO.o zb_ HU.o (fun k hk=>by have:=A3.o k hk;simp;omega) m_ o_ (Nat.zero_le _) ?_;intro A5 c5 w5 o5 g5 l5;have O5:=q_ o5;have G5:=q_ g5;have L5:=q_ l5;have A2:=q_ (H1.o.grown (j:=1) rfl rfl A1.o g5);have y1:=(A2.o.1 1 o_).trans A1.o;have fy:=A2.o.2.1;clear o5 g5 l5 hc);obtain ⟨G2,g2,u2,k2⟩:=H1.o.grow (j:=1) rfl rfl A1.o O5.o (show n+1<=n+2 by omega) G5.o L5.o;obtain ⟨A6,n6,c6,Ad,_,_,_,A8,_⟩:=g2.own (j:=1) rfl rfl;obtain rfl:n6=n+1:=A8 rfl;have P2:=h_ (Kp (putX b n w) w (w5.setCell (f_ b 1) (.slice A5 (n+1) c5))) ((((Kp.refl _ w).alloc _).grown G5.o (fun k hk=>.inl (.inr ⟨A,c,Ab.o,hk⟩))).setCell (p:=(f_ b 1)) (.inl (.inl rfl)) _);obtain ⟨U,hU⟩:=ex_ (w5.setCell (f_ b 1) (.slice A5 (n+1) c5));rw [<-hU] at g2 u2 k2 Ad P2 ⊢;have Aa:=q_ g2;have U2:=q_ ((Up.of_below HB.o).trans u2);have K2:=h_ (KpC b qs 1 w U) (⟨fun q hq=>(k2.1 q hq).trans ((belc HB.o (by obtain ⟨_,_,_,_,_,_,_,_,Ac,_⟩:=H1.o.at_own hq;exact A3.o _ Ac))),fun i hi Ae=>(k2.2 i hi Ae).trans (belc HB.o A4)⟩);clear g2 u2 k2 hU y1 fy A8;go_wp2;go_ret;exact ⟨zk_,G2,by simpa using Aa,U2,K2,P2⟩
def RG (b F:Nat) (pv:Nat->Value) (qs:List Nat) (N o:Nat) (G:NP) (w:World) (k:Nat) (w':World):Prop:=∃ G' qs' N',Hid (GC b F pv qs' N' N' o G' w')/\(∀ q ∈ qs,q ∈ qs')/\N<=N'/\N'<=N+k/\Hid (Up w G w' G')
theorem fd_ (b F:Nat) (pv:Nat->Value) (qs:List Nat) (N o:Nat) (G:NP) (w:World) (h:GC b F pv qs N N o G w) (s:ByteArray) :
  Calls prog 193 #[.pointer (some (a_ b)),.string s] w fun e w'=>RI e/\Below w w w':=by
 obtain ⟨v,x6,hv⟩:=h.cell (j:=6) rfl rfl;obtain ⟨A,n,c,rfl,hs⟩:=hv.slice;have HS:=q_ hs;have hn:=hs.le;have hn:n<=900000000:=hn;clear hs hv h;go_enter func193,ntmps193;go_upto_region 2 with fail;clear x6;go_loopw [12] (fun i wr=>∃ k:Nat,k<=n/\i=i_ k/\Hid (wr=w)) (fun i _=>n - (intOf i).toNat)
 case atStart=>exact ⟨0,o_,rfl,q_ rfl⟩
 obtain ⟨k,hk,rfl,A1⟩:=hrel;have hw:=A1.o.symm;subst hw;clear A1;by_cases hlt:k<n
 ·have A0:(k:Int)<(n:Int):=by omega
  obtain ⟨g,o,rfl,hg,hX,vs,hv,hm⟩:=HS.o.mt hlt;obtain ⟨u,hu,ht⟩:=hv.2 0 .txt rfl;obtain ⟨t,rfl⟩:=ht.str;have c0:w.cell? ⟨g,o+k,none⟩=some (.string t):=by have:=hm 0 _ hu;simpa using this
  clear hv hm hu ht;go_wp2;all_goals first
   | (go_ret;exact ⟨⟨_,rfl⟩,(bel (b_))⟩)
   | (go_roundw
      case rel=>exact ⟨k+1,o_,za_,q_ ve_⟩
      case measure=>exact me_)
 have A0:¬(k:Int)<(n:Int):=by omega
 exact t0_
theorem mark_g (b F:Nat) (pv:Nat->Value) (qs:List Nat) (N o:Nat) (G:NP) (w:World) (h:GC b F pv qs N N o G w) (hN:N<=10000000000) :
  Calls prog 110 #[.pointer (some (a_ b))] w fun e w'=>e=.returned (i_ (N:Int))/\RG b F pv qs N o G w 1 w':=by
 obtain ⟨v,x2,hv⟩:=h.cell (j:=2) rfl rfl;obtain ⟨m,rfl⟩:=hv.int;have fz:=h.fz 2;obtain ⟨g1,u1,k1⟩:=h.set (j:=2) (v:=i_ (wrap64 (m+1))) rfl rfl (.num _);have H1:=q_ g1;have U1:=q_ u1;clear hv h g1 u1 k1;go_enter func110,ntmps110;go_wp2_with (go_at_call 112;refine (bx_ b F pv qs N o G _ H1.o hN _ _ _ _ _).mono ?_;rintro e w1 ⟨rfl,G2,h2,u2,k2⟩);go_ret;exact ⟨rfl,G2,qs,N+1,h2,fun _ h=>h,o_,o_,q_ (U1.o.trans u2.o)⟩
theorem more_g (b F:Nat) (pv:Nat->Value) (qs:List Nat) (N o:Nat) (G:NP) (w:World) (h:GC b F pv qs N N o G w) :
  Calls prog 195 #[.pointer (some (a_ b))] w fun e w'=>RI e/\RG b F pv qs N o G w 0 w':=by
 obtain ⟨v,x7,hv⟩:=h.cell (j:=7) rfl rfl;obtain ⟨m,rfl⟩:=hv.int;have fz:=h.fz 7;have A3:=h.fz 8;obtain ⟨g1,u1,k1⟩:=h.set (j:=7) (v:=i_ (wrap64 (m+1))) rfl rfl (.num _);obtain ⟨U,hU⟩:=ex_ (w.setCell (f_ b 7) (i_ (wrap64 (m+1))));rw [<-hU] at g1 u1;have H1:=q_ g1;have U1:=q_ u1;clear hv h g1 u1 k1;go_enter func195,ntmps195;go_upto_region 2 with fail;rw [<-hU];clear hU x7 fz A3;obtain ⟨v,x7,A1⟩:=H1.o.cell (j:=7) rfl rfl;obtain ⟨m7,rfl⟩:=A1.int;obtain ⟨v,x8,A2⟩:=H1.o.cell (j:=8) rfl rfl;obtain ⟨m8,rfl⟩:=A2.int;obtain ⟨v,x6,A0⟩:=H1.o.cell (j:=6) rfl rfl;obtain ⟨A,n,c,rfl,hs⟩:=A0.slice;have fz:=H1.o.fz 8;clear A1 A2 A0 hs;go_cut [] (fun wx=>Hid (GC b F pv qs N N o G wx)/\Hid (Up w G wx G))
 case first =>
  go_region_law fail;all_goals
   obtain ⟨g2,u2,_⟩:=(H1.o.below (w':=U.drew) (Below.drew (b_))).set (j:=8) (v:=i_ (max m8 m7)) rfl rfl (.num _);have H2:=q_ g2;have U2:=q_ (U1.o.trans ((Up.of_below (Below.drew (b_))).trans u2));clear g2 u2;go_wp2_with fail;go_meet;exact ⟨H2,U2⟩
 rename World=>wx
 obtain ⟨H2,U2⟩:=hcut;clear x6 x7 x8 fz;obtain ⟨v,x7,A1⟩:=H2.o.cell (j:=7) rfl rfl;obtain ⟨m7,rfl⟩:=A1.int;obtain ⟨v,x6,A0⟩:=H2.o.cell (j:=6) rfl rfl;obtain ⟨A,n,c,rfl,hs⟩:=A0.slice;clear A1 A0 hs;go_upto_region 3 with fail;go_quiet (fail);go_wp2;go_ret;exact ⟨⟨_,rfl⟩,G,qs,N,q_ (H2.o.below (bel (b_))),fun _ h=>h,l_,o_,q_ (U2.o.trans (Up.of_below (bel (b_))))⟩
def Pl (w:World) (b N:Nat) (A:OA) (n:Nat):Prop:=∀ j,j<n->∃ g o i:Nat,A=some (f_ g o)/\g<w/\w.cell? ⟨g,o+j,none⟩=some (i_ (i:Int))/\i<N/\∀ g' M c',w.cell? (f_ b 1)=some (.slice (some (a_ g')) M c')->g≠g'
theorem here_g (b F:Nat) (pv:Nat->Value) (qs:List Nat) (N o:Nat) (G:NP) (w:World) (h:GC b F pv qs N N o G w) (hN:N<=10000000000) (A:OA) (n c:Nat) (hn:n<=10000000001) (hp:Pl w b N A n) :
  Calls prog 194 #[.pointer (some (a_ b)),.slice A n c] w fun e w'=>e=.returned (.tuple #[])/\Hid (GC b F pv qs N N o G w')/\Hid (Up w G w' G):=by
 have H:=q_ h;have HP:=q_ hp;obtain ⟨L,ln,lc,hc,Ad,hO,hG,A6,_⟩:=h.own (j:=1) rfl rfl;obtain rfl:ln=N:=A6 rfl;have HO:=q_ hO;have HC:=q_ hc;clear h hp hO hc A6;go_enter func194,ntmps194;go_upto_region 1 with fail;go_loopw [8] (fun i wr=>∃ k:Nat,k<=n/\i=i_ k/\Hid (GC b F pv qs ln ln o G wr)/\Hid (Up w G wr G)/\Hid (KpC b qs 10 w wr)/\Hid (∀ g,(Value.slice L ln lc).ownBlock=some g->Kp (fun q=>q=g) w wr)) (fun i _=>n - (intOf i).toNat)
 case atStart=>exact ⟨0,o_,rfl,H,q_ (Up.refl _ _),q_ ⟨fun _ _=>rfl,fun _ _ _=>rfl⟩,q_ (fun g _=>Kp.refl _ _)⟩
 obtain ⟨k,Ac,rfl,HR,UR,KR,PR⟩:=hrel;by_cases hlt:k<n
 ·have A1:(k:Int)<(n:Int):=by omega
  obtain ⟨g,oo,i,rfl,hg,A4,hi,hne⟩:=HP.o k hlt;obtain ⟨gl,rfl,_,A9,_⟩:=dr_ HO.o.choose_spec.1 o_;have A7:g≠gl:=hne gl _ _ HC.o;have y0:wr.cell? ⟨g,oo+k,none⟩=some (i_ (i:Int)):=((PR.o gl rfl).cell hg A7).trans A4;have x1:wr.cell? (f_ b 1)=some (.slice (some (a_ gl)) ln lc):=(KR.o.2 1 o_ o_).trans HC.o;have Ab:(i:Int)<(ln:Int):=by omega
  have Aa:¬(i:Int)<0:=by omega
  obtain ⟨A2,n2,c2,A0,_,A3,_,A8,_⟩:=HR.o.own (j:=1) rfl rfl;rw [x1] at A0;injection A0 with A0;injection A0 with q1 q2 q3;subst q1 q2 q3;obtain ⟨⟨u4,y4⟩,fy⟩:=du_ A3 i 4 hi rfl;have y4:wr.cell? ⟨gl,i*5+4,none⟩=some u4:=y4;clear A3 A8 A4 hne;go_upto_region 3 with fail;go_region_law fail;all_goals
   obtain ⟨g2,u2,k2⟩:=(HR.o.below (w':=wr.drew) (Below.drew (b_))).patch (g:=gl) (c:=lc) (k:=i) (q:=4) (n:=(ln:Int)) x1 hi o_ ⟨gl,i*5+4,none⟩ rfl;have H2:=q_ g2;have U2:=q_ ((Up.of_below (Below.drew (Below.refl wr wr))).trans u2);have K2:=h_ (KpC b qs 10 wr _) k2;clear g2 u2 k2;go_wp2_with fail;go_roundw
   case rel=>exact ⟨k+1,o_,za_,H2,q_ (UR.o.trans U2.o),q_ ⟨fun q hq=>(K2.o.1 q hq).trans (KR.o.1 q hq),fun i hi A5=>(K2.o.2 i hi A5).trans (KR.o.2 i hi A5)⟩,q_ (fun g hg=>by injection hg with hg;subst hg;exact ((PR.o gl rfl).drew).setCell (p:=⟨gl,i*5+4,none⟩) (.inl rfl) _)⟩
   case measure=>exact me_
 have A1:¬(k:Int)<(n:Int):=by omega
 go_wp2_with fail;refine end0 rfl rfl ?_;exact ⟨rfl,HR,UR⟩
theorem infoVa:(prog.info? 38).map (fun i=>(i.zero,i.size,i.bytes))=some (some (.agg #[.bool false,i_ 0]),2,16):=by kernel_rfl
theorem OwT.vals_any {X Y:NP} {w:World} {base K n c:Nat} {et:TypeId} {A:OA} (h:OwT w base et valT X K A n c):OwT w base et valT Y K A n c:=by
 obtain ⟨xs,h1,h2⟩:=h;refine ⟨xs,h1,fun k j t hk hj=>?_⟩;obtain ⟨u,hu,hv⟩:=h2 k j t hk hj;refine ⟨u,hu,?_⟩
 match j,hj with
 | 0,hj=>injection hj with hj;subst hj;obtain ⟨b,rfl⟩:=hv.bool;exact .tru _
 | 1,hj=>injection hj with hj;subst hj;obtain ⟨b,rfl⟩:=hv.int;exact .num _
 | j+2,hj=>simp [valT] at hj
theorem write_t (X:NP) (K:Nat) (vs:VL) (y:Cl) (w:World) (ht:VTs w X K af_ vs) (hK:K<=100000000000) (hX:∀ k,X k->k<w) :
  Calls prog 142 #[.agg vs.toArray,.agg #[i_ y.id,i_ y.field,.bool y.ref,i_ y.n]] w fun e w'=>RAk X (K+1) af_ vs e w'/\Below w w w':=by
 obtain ⟨i0,Bp,Bs,Bt,Bu⟩:=info_parts infoOb;obtain ⟨i1,Bq,Bv,Bw,By⟩:=info_parts infoVa;obtain ⟨NA,nn,nc,Aw,Ax⟩:=ht.slc (j:=39) (e:=objT) rfl;obtain ⟨WA,wn,wc,AL,AN⟩:=ht.slc (j:=38) (e:=aq_) rfl;have AM:(prog.info? 65).map (·.size)=some vs.length:=by rw [ht.1];kernel_rfl
 have Br:vs.length=48:=ht.1;obtain ⟨W,hW,AI,Bo,B0,B1,B2⟩:=et_ w vs 65 [i_ y.id,i_ y.field,.bool y.ref,i_ y.n] 87 zl1 65;have AS:∀ k,k<w.heap.size->¬X k->¬(X k\/(w.heap.size<=k/\k<w.heap.size+3)):=fun k hk h1 h2=>by rcases h2 with h2 | h2;exact h1 h2;omega
 have HT:=q_ (ht.kept (Y:=(fun k=>X k\/(w<=k/\k<w+3))) (Kp.of_below AI) AS (Nat.le_refl K));have HN:=q_ (Ax.kept (Y:=(fun k=>X k\/(w<=k/\k<w+3))) (Kp.of_below AI) AS (Nat.le_refl K));have Bk:=q_ (AN.kept (Y:=(fun k=>X k\/(w<=k/\k<w+3))) (Kp.of_below AI) AS (Nat.le_refl K));have HW:=q_ AI;have Ap:=q_ B0;have AF:=q_ B1;have Bc:=q_ B2;have Aa:=Ax.le;have Ac:=h_ (∀ k,(fun k=>X k\/(w<=k/\k<w+3)) k->k<W) (fun k hk=>by rcases hk with hk | hk;have:=hX k hk;omega;omega);have Bb:(w:Nat)+3=W:=by omega
 have Bd:=q_ Bb;have c0:=B1.2.1 0 _ rfl;have HF:=q_ (And.intro Aw AL);clear ht hX B0 B1 B2 AI Bo Ax AN AS Bb;go_enter func142,ntmps142;go_upto_region 1 with fail;rw [<-hW];clear hW;go_wp2_with (with_reducible refine ac_ rfl 65 (.tmp 2) rfl _ underlying65 rfl v_ Ap.o.whole AM ?_);refine (own_t (fun k=>X k\/(w<=k/\k<w+3)) K vs y.id W HT.o o_).mono ?_;rintro e Y ⟨⟨n1,BM,⟨A1,c1,AK⟩,⟨q,rfl,hq⟩⟩,hY⟩;rw [Aw] at AK;injection AK with AK;injection AK with hf1a hf1b hf1c;subst hf1b;clear hf1a hf1c Aw AL c0;have BD:=hY.size;have Ar:=q_ hY;have B9:=hq.o;clear hq;by_cases hneg:q<0
 ·clear B9;have BB:=(Ap.o.below hY).2.1 38 _ HF.o.2;have y0:=(AF.o.below hY).2.1 0 _ rfl;have y1:=(AF.o.below hY).2.1 1 _ rfl;have y2:=(AF.o.below hY).2.1 2 _ rfl;have y3:=(AF.o.below hY).2.1 3 _ rfl;clear hY;go_upto_region 3 with fail;go_wp2_with fail;refine (put_t (fun k=>X k\/(w<=k/\k<w+3)) K WA wn wc y Y (Bk.o.up (Kp.of_below Ar.o) (Nat.le_refl K)) hK (fun k hk=>by have:=Ac.o k hk;omega)).mono ?_;rintro e S ⟨⟨A2,n2,c2,rfl,Bn⟩,hS⟩;have AT:Below W W S:=Ar.o.trans (hS.mono Ar.o.size);have BA:=(Ap.o.below AT).2.1 38 _ HF.o.2;have s0:=(Ap.o.below AT).2.2;have AQ:=q_ AT;clear y0 y1 y2 y3 BB hS AT;go_upto_region 4 with fail;obtain ⟨ls,Al⟩:=ex_ (vs.set 38 (.slice A2 n2 c2));obtain ⟨U,hU⟩:=ex_ (S.setCell (f_ w 38) (.slice A2 n2 c2));have Am:=h_ (Bx U w ls) (by rw [hU,Al];exact (Ap.o.below AQ.o).set 38 _);have Aj:=h_ (Bx U (w+2) zl1) (by rw [hU];exact (Bc.o.below AQ.o).far yf_ _);have Au:=h_ (Kp (fun k=>X k\/(w<=k/\k<w+3)) S U) (by rw [hU];exact (Kp.refl _ S).setCell (p:=(f_ w 38)) (.inl (.inr ⟨zy_,xf_⟩)) _);have Bh:=h_ (Below w w U) (by rw [hU];exact (HW.o.trans (AQ.o.mono (by have:=Bd.o;omega))).setCell zy_ _);have AP:=h_ (VTs U (fun k=>X k\/(w<=k/\k<w+3)) (K+1) af_ ls) (by rw [Al];exact ((HT.o.up ((show Kp (fun k=>X k\/(w<=k/\k<w+3)) W S from .of_below AQ.o).trans Au.o) (Nat.le_succ K)).set (j:=38) rfl (Bn.o.up Au.o (l_)).vt));rw [<-hU];have Ab:(prog.info? 65).map (·.size)=some ls.length:=by rw [Al];simpa using AM
  have A3:ls.length=48:=by rw [AP.o.1];rfl
  have Ah:=q_ Al;clear hU Al BA s0;go_wp2_with (first
   | (with_reducible refine ac_ rfl 65 (.tmp 2) rfl _ underlying65 rfl v_ Am.o.whole Ab ?_)
   | (with_reducible refine ab_ rfl 65 (.tmp 4) (.tmp 18) rfl ls yy_ v_ (Aj.o.there vp_) Ab AP.o.one ?_))
  refine retC results142 zc_ underlying65 rfl Ab (cs:=ls) (Aj.o.all ls (by rw [A3];rfl)).whole rfl ?_;exact ⟨⟨ls,rfl,(AP.o.up (ai_ (w+2) ls 0 (Kp.refl _ U) (.inl (.inr ⟨o_,o_⟩))) (Nat.le_refl (K+1))).less (fun k _ h=>.inl h),q_ (by rw [Ah.o];exact KT.set vs 38 _ ⟨d_,d_⟩)⟩,(ai_ (w+2) ls 0 (show Kp (fun _=>False) w U from .of_below Bh.o) (.inr o_)).below (l_) (fun _ _ h=>h)⟩
 obtain ⟨k,hk,rfl⟩:∃ k:Nat,k<nn/\q=(k:Int):=by
  rcases B9 with h | h
  ·omega
  exact h
 clear B9;have BC:=(Ap.o.below hY).2.1 39 _ HF.o.1;have t0:=(Ap.o.below hY).2.2;clear hY;have HA:=h_ (SlT Y (Wi (fun k=>X k\/(w<=k/\k<w+3)) (Value.slice none 0 0).ownBlock) K objT NA nn nc) ((HN.o.up (Kp.of_below Ar.o) (Nat.le_refl K)).kept (Kp.refl _ _) (fun k _ h h2=>by rcases h2 with h2 | h2;exact h h2;cases h2) (Nat.le_refl K));go_upto_region 6 with (at_builtin;refine ap_ rfl _ _ 33 rfl Y 90 i0 _ 32 objT (fun k=>X k\/(w<=k/\k<w+3)) K underlying33 Bp Bs Bt Bu rfl d_ none 0 0 zb_ (OwT.nil _ _ _ _ _ _) NA nn nc zb_ HA.o (fun k hk=>by have:=Ac.o k hk;omega) m_ o_ (l_) ?_;intro A4 c4 w4 o4 g4 l4;rw [Nat.zero_add] at o4 l4 ⊢;have b4:Below Y Y w4:=al_ g4 (l_) (fun k hk=>by cases hk);have O4:=q_ o4;have BX:=q_ (Ap.o.below (Ar.o.trans (b4.mono Ar.o.size)));have m0:=BX.o.2.1 39 _ HF.o.1;have m1:=BX.o.2.2;have B4:=q_ b4;clear o4 l4 g4 BC t0 b4);obtain ⟨U,hU⟩:=ex_ (w4.setCell (f_ w 39) (.slice A4 nn c4));obtain ⟨ls,Al⟩:=ex_ (vs.set 39 (.slice A4 nn c4));have Bb:=Bd.o;have AA:=h_ (OwT U Y 90 objT (fun k=>X k\/(w<=k/\k<w+3)) K A4 nn c4) (by rw [hU];exact O4.o.kept (dw_ _ _ _) (fun g hg=>by injection hg with hg;subst hg;exact ⟨.inr ⟨zy_,xf_⟩,xt_⟩));have Am:=h_ (Bx U w ls) (by rw [hU,Al];exact BX.o.set 39 _);have AR:=h_ (Below W W w4) (Ar.o.trans (B4.o.mono Ar.o.size));have AZ:=h_ (Below w w U) (by rw [hU];exact (HW.o.trans (AR.o.mono o_)).setCell zy_ _);have AX:=h_ (Bx U (w+1) _) (by rw [hU];exact (AF.o.below AR.o).far z3_ _);have AY:=h_ (Bx U (w+2) _) (by rw [hU];exact (Bc.o.below AR.o).far yf_ _);have Au:=h_ (Kp (fun k=>X k\/(w<=k/\k<w+3)) W U) (by rw [hU];exact (show Kp (fun k=>X k\/(w<=k/\k<w+3)) W w4 from .of_below AR.o).setCell (p:=(f_ w 39)) (.inl (.inr ⟨zy_,xf_⟩)) _);have AU:ls[39]?=some (.slice A4 nn c4):=by rw [Al];simp [Br]
 have AP:=h_ (VTs U (fun k=>X k\/(w<=k/\k<w+3)) K af_ ls) (by rw [Al];exact ((HT.o.up Au.o (Nat.le_refl K)).set (j:=39) rfl (AA.o.slT (fun k hk=>by have:=Ac.o k hk;omega) Aa).vt));rw [<-hU];have Ay:=Am.o.2.1 39 _ AU;have BN:(Y:Nat)<=U:=by rw [hU];simpa using B4.o.size
 have Ah:=q_ Al;clear hU Al m0 m1;obtain ⟨xs,ho,An⟩:=AA.o;obtain ⟨g,Bl,BG,BH,BI⟩:=dr_ ho o_;clear ho An;have AB:W<=g:=by omega
 subst Bl;obtain ⟨g',o',he,BF,x,Ba,Bz,hx⟩:=(AA.o.slT (fun k hk=>by have:=Ac.o k hk;omega) Aa).obj_at hk;injection he with he;injection he with he1 Av;subst he1 Av;rw [Nat.zero_add] at hx;obtain ⟨x0,x1⟩:=hx U (b_);obtain ⟨V,hV,B3,Be,V0⟩:=ag_ U [i_ x.id,.slice x.A x.n x.c] 90;have v0:=V0.2.1 0 _ rfl;have v1:=V0.2.1 1 _ rfl;have v2:=V0.2.2;have BL:(k:Int)<(nn:Int):=by omega
 go_upto_region 7 with fail;rw [<-hV];clear hV;have BO:(V:Nat)=U+1:=Be;have Bj:=q_ B3;have Bi:=q_ V0;have AV:=Ba.le;have Bg:=h_ (SlT V (Wi (fun _=>False) (Value.slice none 0 0).ownBlock) K valT x.A x.n x.c) ((Ba.up (Kp.of_below B3) (Nat.le_refl K)).kept (Kp.refl _ _) (fun k _ h h2=>by rcases h2 with h2 | h2;exact h2;cases h2) (Nat.le_refl K));clear hx Bz Ba B3 Be V0 x0 x1 Ay;go_upto_region 8 with (at_builtin;refine ap_ rfl _ _ 88 rfl V 38 i1 _ 16 valT (fun _=>False) K underlying88 Bq Bv Bw By rfl d_ none 0 0 zb_ (OwT.nil _ _ _ _ _ _) x.A x.n x.c zb_ Bg.o (fun _ h=>h.elim) m_ o_ (l_) ?_;intro A7 c7 w7 o7 g7 l7;rw [Nat.zero_add] at o7 l7 ⊢;have b7:Below V V w7:=al_ g7 (l_) (fun k hk=>by cases hk);have O7:=q_ (o7.vals_any (Y:=fun k=>k<V));have AW:=q_ (Bi.o.below b7);have m0:=AW.o.2.1 1 _ rfl;have m1:=AW.o.2.2;have B7:=q_ b7;clear o7 l7 g7 b7 v0 v1 v2);obtain ⟨U2,AH⟩:=ex_ (w7.setCell (f_ U 1) (.slice A7 x.n c7));have Aq:=h_ (Below U U U2) (by rw [AH];exact (Bj.o.trans (B7.o.mono o_)).setCell (by show (U:Nat)<=U;omega) _);have As:=h_ (OwT U2 V 38 valT (fun k=>k<V) K A7 x.n c7) (by rw [AH];exact O7.o.kept (dw_ _ _ _) (fun g hg=>by injection hg with hg;subst hg;exact ⟨by show (U:Nat)<_;omega,by show (U:Nat)<_;omega⟩));have Az:=h_ (Bx U2 U [i_ x.id,.slice A7 x.n c7]) (by rw [AH];exact AW.o.set 1 _);rw [<-AH];have e0:=Az.o.2.1 1 _ rfl;have e1:=(AX.o.below Aq.o).2.1 1 _ rfl;have e2:=(AX.o.below Aq.o).2.1 2 _ rfl;have e3:=(AX.o.below Aq.o).2.1 3 _ rfl;clear AH m0 m1;by_cases h0:0<=y.field
 ·by_cases h1:y.field<x.n
  ·obtain ⟨j,hj⟩:∃ j:Nat,y.field=j:=⟨y.field.toNat,o_⟩;have B8:j<x.n:=by omega
   obtain ⟨xs,ho,An⟩:=As.o;obtain ⟨f,Bm,BE,AK,B6⟩:=dr_ ho o_;clear ho An;subst Bm;obtain ⟨f2,o2,Av,_,_,fq,B5,_⟩:=(As.o.slT (fun k h=>h) AV).el B8;injection Av with Av;injection Av with Av he4;subst Av he4;have q0:U2.cell? ⟨f,j*2,none⟩=some (fq 0):=by have:=B5 0 .tru rfl;simpa [valT] using this
   have q1:U2.cell? ⟨f,j*2+1,none⟩=some (fq 1):=by have:=B5 1 .num rfl;simpa [valT] using this
   have q2:=B6 (j*2);have q3:=B6 (j*2+1);have BK:(j:Int)<(x.n:Int):=by omega
   have BJ:(0:Int)<=(j:Int):=by omega
   rw [hj] at e1;clear B5 B6;go_upto_region 10 with fail;obtain ⟨U3,Ad⟩:=ex_ ((U2.setCell ⟨f,j*2,none⟩ (.bool y.ref)).setCell ⟨f,j*2+1,none⟩ (i_ y.n));have AC:=h_ (OwT U3 V 38 valT (fun k=>k<V) K (some (a_ f)) x.n c7) (by rw [Ad];exact (As.o.set B8 (j:=0) rfl (.tru _) _ rfl).set B8 (j:=1) rfl (.num _) _ rfl);have A0:=h_ (Below U U U3) (by rw [Ad];exact (Aq.o.setCell vj_ _).setCell vj_ _);have Ao:=h_ (Bx U3 U [i_ x.id,.slice (some (a_ f)) x.n c7]) (by rw [Ad];exact (Az.o.far (by show f≠U;omega) _).far (by show f≠U;omega) _);rw [<-Ad];clear Ad q0 q1 q2 q3;have Ae:=q_ (AA.o.below A0.o);have AO:(U:Nat)<=U3:=A0.o.size;obtain ⟨xs,ho,An⟩:=Ae.o;obtain ⟨g2,A5,_,Bf,A9⟩:=dr_ ho o_;injection A5 with A5;injection A5 with A5;subst A5;clear ho An;obtain ⟨g3,o3,A8,_,_,fn,Ak,_⟩:=(Ae.o.slT (fun k hk=>by have:=Ac.o k hk;omega) Aa).el hk;injection A8 with A8;injection A8 with A8 he4;subst A8 he4;have n0:U3.cell? ⟨g,k*2,none⟩=some (fn 0):=by have:=Ak 0 .num rfl;simpa [objT] using this
   have n1:U3.cell? ⟨g,k*2+1,none⟩=some (fn 1):=by have:=Ak 1 (.sl valT) rfl;simpa [objT] using this
   have n2:=A9 (k*2);have n3:=A9 (k*2+1);have s0:=Ao.o.2.1 0 _ rfl;have s1:=Ao.o.2.1 1 _ rfl;have Ay:=(Am.o.below A0.o).2.1 39 _ AU;clear Ak;go_upto_region 11 with fail;obtain ⟨U4,A6⟩:=ex_ ((U3.setCell ⟨g,k*2,none⟩ (i_ x.id)).setCell ⟨g,k*2+1,none⟩ (.slice (some (a_ f)) x.n c7));have Af:=h_ (Kp (fun q=>q=g) U3 U4) zv_;have AE:=h_ (SlT (U3.setCell ⟨g,k*2,none⟩ (i_ x.id)) (Wi (fun k=>X k\/(w<=k/\k<w+3)) (some g)) K valT (some (a_ f)) x.n c7) ((AC.o.slT (fun k h=>h) AV).kept ((Kp.refl _ U3).setCell (p:=⟨g,k*2,none⟩) (.inl (by show g<V;omega)) _) (fun q _ h h2=>h z8_) (Nat.le_refl K));have AD:=h_ (OwT U4 Y 90 objT (fun k=>X k\/(w<=k/\k<w+3)) K (some (a_ g)) nn c4) ya_;have AG:=h_ (Kp (fun k=>X k\/(w<=k/\k<w+3)) W U4) zu_;have Ai:=h_ (Bx U4 w ls) ((Am.o.below A0.o).kp Af.o (by show ¬w=g;omega));have Aj:=h_ (Bx U4 (w+2) zl1) ((AY.o.below A0.o).kp Af.o (by show ¬w+2=g;omega));have Ag:=h_ (VTs U4 (fun k=>X k\/(w<=k/\k<w+3)) K af_ ls) zx_;rw [<-A6];have Ab:(prog.info? 65).map (·.size)=some ls.length:=by rw [Ah.o];simpa using AM
   have A3:ls.length=48:=by rw [Ag.o.1];rfl
   clear A6 n0 n1 n2 n3 s0 s1 Ay e0 e1 e2 e3;go_wp2_with (first
    | (with_reducible refine ac_ rfl 65 (.tmp 2) rfl _ underlying65 rfl v_ Ai.o.whole Ab ?_)
    | (with_reducible refine ab_ rfl 65 (.tmp 4) (.tmp 55) rfl ls yy_ v_ (Aj.o.there vp_) Ab Ag.o.one ?_))
   exact vw_
  go_upto_region 10 with fail;obtain ⟨U3,Ad⟩:=ex_ U2;rw [<-Ad] at As Aq Az e0 e1 e2 e3;rw [<-Ad];have AC:=As;have A0:=Aq;have Ao:=Az;clear Ad;have Ae:=q_ (AA.o.below A0.o);have AO:(U:Nat)<=U3:=A0.o.size;obtain ⟨xs,ho,An⟩:=Ae.o;obtain ⟨g2,A5,_,Bf,A9⟩:=dr_ ho o_;injection A5 with A5;injection A5 with A5;subst A5;clear ho An;obtain ⟨g3,o3,A8,_,_,fn,Ak,_⟩:=(Ae.o.slT (fun k hk=>by have:=Ac.o k hk;omega) Aa).el hk;injection A8 with A8;injection A8 with A8 he4;subst A8 he4;have n0:U3.cell? ⟨g,k*2,none⟩=some (fn 0):=by have:=Ak 0 .num rfl;simpa [objT] using this
  have n1:U3.cell? ⟨g,k*2+1,none⟩=some (fn 1):=by have:=Ak 1 (.sl valT) rfl;simpa [objT] using this
  have n2:=A9 (k*2);have n3:=A9 (k*2+1);have s0:=Ao.o.2.1 0 _ rfl;have s1:=Ao.o.2.1 1 _ rfl;have Ay:=(Am.o.below A0.o).2.1 39 _ AU;clear Ak;go_upto_region 11 with fail;obtain ⟨U4,A6⟩:=ex_ ((U3.setCell ⟨g,k*2,none⟩ (i_ x.id)).setCell ⟨g,k*2+1,none⟩ (.slice A7 x.n c7));have Af:=h_ (Kp (fun q=>q=g) U3 U4) zv_;have AE:=h_ (SlT (U3.setCell ⟨g,k*2,none⟩ (i_ x.id)) (Wi (fun k=>X k\/(w<=k/\k<w+3)) (some g)) K valT A7 x.n c7) ((AC.o.slT (fun k h=>h) AV).kept ((Kp.refl _ U3).setCell (p:=⟨g,k*2,none⟩) (.inl (by show g<V;omega)) _) (fun q _ h h2=>h z8_) (Nat.le_refl K));have AD:=h_ (OwT U4 Y 90 objT (fun k=>X k\/(w<=k/\k<w+3)) K (some (a_ g)) nn c4) ya_;have AG:=h_ (Kp (fun k=>X k\/(w<=k/\k<w+3)) W U4) zu_;have Ai:=h_ (Bx U4 w ls) ((Am.o.below A0.o).kp Af.o (by show ¬w=g;omega));have Aj:=h_ (Bx U4 (w+2) zl1) ((AY.o.below A0.o).kp Af.o (by show ¬w+2=g;omega));have Ag:=h_ (VTs U4 (fun k=>X k\/(w<=k/\k<w+3)) K af_ ls) zx_;rw [<-A6];have Ab:(prog.info? 65).map (·.size)=some ls.length:=by rw [Ah.o];simpa using AM
  have A3:ls.length=48:=by rw [Ag.o.1];rfl
  clear A6 n0 n1 n2 n3 s0 s1 Ay e0 e1 e2 e3;go_wp2_with (first
   | (with_reducible refine ac_ rfl 65 (.tmp 2) rfl _ underlying65 rfl v_ Ai.o.whole Ab ?_)
   | (with_reducible refine ab_ rfl 65 (.tmp 4) (.tmp 55) rfl ls yy_ v_ (Aj.o.there vp_) Ab Ag.o.one ?_))
  exact vw_
 go_upto_region 10 with fail;obtain ⟨U3,Ad⟩:=ex_ U2;rw [<-Ad] at As Aq Az e0 e1 e2 e3;rw [<-Ad];have AC:=As;have A0:=Aq;have Ao:=Az;clear Ad;have Ae:=q_ (AA.o.below A0.o);have AO:(U:Nat)<=U3:=A0.o.size;obtain ⟨xs,ho,An⟩:=Ae.o;obtain ⟨g2,A5,_,Bf,A9⟩:=dr_ ho o_;injection A5 with A5;injection A5 with A5;subst A5;clear ho An;obtain ⟨g3,o3,A8,_,_,fn,Ak,_⟩:=(Ae.o.slT (fun k hk=>by have:=Ac.o k hk;omega) Aa).el hk;injection A8 with A8;injection A8 with A8 he4;subst A8 he4;have n0:U3.cell? ⟨g,k*2,none⟩=some (fn 0):=by have:=Ak 0 .num rfl;simpa [objT] using this
 have n1:U3.cell? ⟨g,k*2+1,none⟩=some (fn 1):=by have:=Ak 1 (.sl valT) rfl;simpa [objT] using this
 have n2:=A9 (k*2);have n3:=A9 (k*2+1);have s0:=Ao.o.2.1 0 _ rfl;have s1:=Ao.o.2.1 1 _ rfl;have Ay:=(Am.o.below A0.o).2.1 39 _ AU;clear Ak;go_upto_region 11 with fail;obtain ⟨U4,A6⟩:=ex_ ((U3.setCell ⟨g,k*2,none⟩ (i_ x.id)).setCell ⟨g,k*2+1,none⟩ (.slice A7 x.n c7));have Af:=h_ (Kp (fun q=>q=g) U3 U4) zv_;have AE:=h_ (SlT (U3.setCell ⟨g,k*2,none⟩ (i_ x.id)) (Wi (fun k=>X k\/(w<=k/\k<w+3)) (some g)) K valT A7 x.n c7) ((AC.o.slT (fun k h=>h) AV).kept ((Kp.refl _ U3).setCell (p:=⟨g,k*2,none⟩) (.inl (by show g<V;omega)) _) (fun q _ h h2=>h z8_) (Nat.le_refl K));have AD:=h_ (OwT U4 Y 90 objT (fun k=>X k\/(w<=k/\k<w+3)) K (some (a_ g)) nn c4) ya_;have AG:=h_ (Kp (fun k=>X k\/(w<=k/\k<w+3)) W U4) zu_;have Ai:=h_ (Bx U4 w ls) ((Am.o.below A0.o).kp Af.o (by show ¬w=g;omega));have Aj:=h_ (Bx U4 (w+2) zl1) ((AY.o.below A0.o).kp Af.o (by show ¬w+2=g;omega));have Ag:=h_ (VTs U4 (fun k=>X k\/(w<=k/\k<w+3)) K af_ ls) zx_;rw [<-A6];have Ab:(prog.info? 65).map (·.size)=some ls.length:=by rw [Ah.o];simpa using AM
 have A3:ls.length=48:=by rw [Ag.o.1];rfl
 clear A6 n0 n1 n2 n3 s0 s1 Ay e0 e1 e2 e3;go_wp2_with (first
  | (with_reducible refine ac_ rfl 65 (.tmp 2) rfl _ underlying65 rfl v_ Ai.o.whole Ab ?_)
  | (with_reducible refine ab_ rfl 65 (.tmp 4) (.tmp 55) rfl ls yy_ v_ (Aj.o.there vp_) Ab Ag.o.one ?_))
 exact vw_
end Go.Proofs.YtfolidlmgfhkiaaGreat
