/- Lemmas on functions of the program, under the conditions that each states. -/
import Derived.Test.YtfolidlmgfhkiaaGreatV28
set_option linter.unusedVariables false
set_option linter.unusedSimpArgs false
set_option maxRecDepth 100000
set_option maxHeartbeats 8000000
namespace Go.Proofs.YtfolidlmgfhkiaaGreat
open Go.RowKit Go.Proofs.Tryz
def RCom (X:NP) (K:Nat) (e:Ending) (w:World):Prop:=∃ (us:VL) (ev:Int),e=.returned (.tuple #[.agg us.toArray,i_ ev])/\VTs w X K comT us
def co_ (A:OA) (n c:Nat):VL:=[.slice A n c,i_ 0,i_ 0,.slice none 0 0,.bool false,.bool false,.bool false,i_ 0,i_ 0,i_ 0]
theorem dw_ (A:OA) (n c:Nat):(prog.info? 40).map (·.size)=some (co_ A n c).length:=du_
theorem cw_ {X:NP} {w:World} {K:Nat} {A:OA} {n c:Nat} (h:SlT w X K objT A n c):VTs w X K comT (co_ A n c):=VTs.cons h.vt (ax_ K (comT.drop 1))
theorem ret_com {X:NP} {w0 w:World} {L:List LV} {Y:NP} {C:Nat->VL} {i b N:Nat} {us:VL} (F:Fr X (fun _=>False) w0 L Y C w) (hp:L[i]?=some ⟨b,fun _=>N,comT,noOw⟩) (hv:VTs w Y N comT us) (ev:Int) :
  (∃ f2:Fr X (fun _=>False) w0 L Y (upd C b us) (w.setCells b 0 us),True)/\RCom X N (.returned (.tuple #[.agg (upd C b us b).toArray,i_ ev])) (w.setCells b 0 us)/\Below w0 w0 (w.setCells b 0 us):=by
 exact vy_
theorem Begin22_t (X:NP) (K:Nat) (A:OA) (n c:Nat) (v s:Int) (l:List In) (w:World) (hco:SlT w X K aw_ A n c) (hl:Sl w w 5 In.cells A n l) (hK:K<=900000000) (hX:∀ k,X k->k<w) :
  Calls prog 39 #[.agg #[.slice A n c,i_ v,i_ s]] w fun e w'=>RCom X 100 e w'/\Below w w w':=by
 obtain ⟨W,Y,C,hW,hz,U,F,c0,c1⟩:=Fr.start2 hX K [.sl aw_,.num,.num] [.slice A n c,i_ v,i_ s] 26 (VTs.cons hco.vt (VTs.cons (.num _) (VTs.cons (.num _) VTs.nil))) 100 comT (co_ none 0 0) 40 (cw_ (cp_ _ _ _ _));have A4:=q_ (hco.go U (l_));have HL:=q_ (hl.go hco U);have HF:=q_ F;have x0:=F.cell (i:=1) rfl (j:=0) y3_;have x1:=F.cell (i:=1) rfl (j:=1) y3_;have x2:=F.cell (i:=1) rfl (j:=2) y3_;have A2:W=(w.alloc (.cells #[.slice A n c,i_ v,i_ s] 26)).alloc (.cells zl3.toArray 40):=hW;clear hco hl hX U F c0 c1 hW;go_enter func39,ntmps39;go_upto_region 1 with fail;rw [<-A2];clear A2;go_wp2_with fail;refine (Start_t Y K A n c v s l W A4.o HL.o hK HF.o.lt).mono ?_;rintro e S ⟨⟨us,ev,rfl,A0⟩,hS⟩;have F1:=q_ (HF.o.call hS);have US:=q_ A0;have IS:=h_ ((prog.info? 140).map (·.size)=some us.length) (by rw [A0.1];exact isz_140);have BN:=q_ (Bx.new S zl2 140);have LR:=h_ ((zl2:VL).length=ee_.length) rfl;obtain ⟨N,Y3,D3,hN,A6,u3,f3,cN,A5⟩:=F1.o.eb_ 100 ee_ zl2 us 140 ej_ US.o;have F4:=q_ f3;have U3:=q_ u3;have CN:=q_ cN;have A7:(w:Nat)+1<S:=F1.o.blt (i:=0) rfl;clear hS f3 u3 cN A5 A6 x0 x1 x2;go_upto_region 2 with (with_reducible refine ab_ rfl 140 (.tmp 4) (.tmp 9) rfl (us) w_ v_ (BN.o.ai_ LR.o (Nat.le_of_eq US.o.len)) IS.o US.o.one ?_);rw [<-hN];clear hN;obtain ⟨sv,ur,rfl,A3,_⟩:=A0.head;obtain ⟨HA,hn,hc,rfl,hh⟩:=A3.slice;have HH:=q_ (hh.go U3.o (l_));have s0:=F4.o.cell (i:=0) rfl (j:=0) (v:=.slice HA hn hc) (by rw [CN.o];rfl);clear hh A3 A0;have BR:=q_ (F4.o.box (i:=1) rfl);have LR:=q_ (F4.o.len (i:=1) rfl);by_cases hev:ev=0
 case neg =>
  have HZ:=h_ (VTs N Y3 100 comT (co_ none 0 0)) (cw_ (cp_ _ _ _ _));have A1:=h_ ((co_ none 0 0).length<=comT.length) (Nat.le_refl 10);go_wp2_with (with_reducible refine ab_ rfl 40 (.tmp 2) (.tmp 13) rfl (co_ none 0 0) w_ zl_ (BR.o.ai_ LR.o A1.o) (dw_ _ _ _) HZ.o.one ?_);obtain ⟨⟨f9,_⟩,hr⟩:=ret_com F4.o (i:=1) rfl HZ.o ev;exact u8_
 subst hev;have HZ:=h_ (VTs N Y3 100 comT (co_ HA hn hc)) (cw_ HH.o);have A1:=h_ ((co_ HA hn hc).length<=comT.length) (Nat.le_refl 10);go_wp2_with (with_reducible refine ab_ rfl 40 (.tmp 2) (.tmp 17) rfl (co_ HA hn hc) w_ zl_ (BR.o.ai_ LR.o A1.o) (dw_ _ _ _) HZ.o.one ?_);obtain ⟨⟨f9,_⟩,hr⟩:=ret_com F4.o (i:=1) rfl HZ.o 0;exact u8_
end Go.Proofs.YtfolidlmgfhkiaaGreat
