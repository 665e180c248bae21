/- Lemmas on functions of the program, under the conditions that each states. -/
import Derived.Test.YtfolidlmgfhkiaaGreatV32
import Derived.Test.YtfolidlmgfhkiaaGreatV33
import Derived.Test.YtfolidlmgfhkiaaGreatV31
set_option linter.unusedVariables false
set_option linter.unusedSimpArgs false
set_option maxRecDepth 100000
set_option maxHeartbeats 8000000
namespace Go.Proofs.YtfolidlmgfhkiaaGreat
open Go.RowKit Go.Proofs.Tryz
theorem Rd.set {d:Nat} {w w':World} (h:Rd d w w') {p:Addr} (hd:d<p.block) (hp:w<=p.block) (u:Value):Rd d w (w'.setCell p u):=⟨h.dice.set hd u,h.kp.setCell (.inr hp) u⟩
theorem Rd.start {d:Nat} {w w':World} (hD:Dice w d) (hb:Below w w w'):Rd d w w':=⟨hD.below hb,.of_below hb⟩
theorem Fr.row_out {X Y X':NP} {w0 w:World} {L:List LV} {C:Nat->VL} {i j b:Nat} {K:Nat->Nat} {ts e:List CT} {ow:Nat->Option TypeId} {et:TypeId} (h:Fr X (fun _=>False) w0 L Y C w) (hp:L[i]?=some ⟨b,K,ts,ow⟩) (hj:ts[j]?=some (.sl e)) (ho:ow j=some et) (hX':∀ k,X' k->Y k/\(k<w0\/∃ q ∈ L,q.b=k)) :
  ∃ A n c,(C b)[j]?=some (.slice A n c)/\SlT w X' (K j) e A n c:=by
 obtain ⟨e',A,n,c,h1,h2,h3,h4,h5⟩:=h.row _ (Fr.mem hp) j _ et hj ho;injection h1 with h1;subst h1;refine ⟨A,n,c,h2,?_⟩;have A0:=h4.any h3;obtain ⟨xs,A1,hx⟩:=h4;refine ⟨A0.le,A0.cap,A0.max,A0.nul,fun ad hA=>?_⟩;subst hA;have A2:=(own_src A1).2 ad rfl;rcases A1.2 with ⟨h',_⟩ | ⟨g,cap,cur,h',hbg,hg,_⟩
 ·cases h'
 injection h' with q1 _ q3;injection q1 with q1;subst q1 q3;obtain ⟨A7,A4,A6⟩:=h5 g rfl;have A5:g<w:=by
  rcases Nat.lt_or_ge g w with q | q
  ·exact q
  rw [Array.getElem?_eq_none q] at hg;cases hg
 refine ⟨g,0,rfl,A5,fun A3=>?_,fun k j=>xs.getD (k*e.length+j) undef,fun k j t hk hj=>?_,fun k j t hk hj=>?_⟩
 ·rcases (hX' g A3).2 with q | ⟨q,hq,hqb⟩
  ·rcases A4 with z | z
   ·omega
   exact z.elim
  exact A6 q hq hqb
 ·obtain ⟨u,hu,_⟩:=hx k j t hk hj;have:=A2 _ u hu;rw [Addr.add_lit] at this;show _=some (xs.getD (k*e.length+j) undef)
  rw [this,List.getD_eq_getElem?_getD,hu];rfl
 obtain ⟨u,hu,hv⟩:=hx k j t hk hj;show VT w X' (K _) t (xs.getD (k*e.length+j) undef)
 rw [List.getD_eq_getElem?_getD,hu];exact hv.less (fun q _ hq=>.inl (hX' q hq).1)
def RCode (X:NP) (e:Ending) (w:World):Prop:=∃ (A:OA) (n c:Nat) (v s:Int),e=.returned (.agg #[.slice A n c,i_ v,i_ s])/\Hid (SlT w X 2048 aw_ A n c)
theorem Code_m (d:Nat) (X:NP) (w:World) (hD:Dice w d) (hX:∀ k,X k->k<w) (hXd:X d) :
  Calls prog 36 #[.pointer (some (a_ d))] w fun e w'=>RCode X e w'/\Rd d w w':=by
 obtain ⟨W,hW,A4,Af,B0⟩:=af_ w [.slice none 0 0,i_ 0,i_ 0] 26;have HD:=q_ (hD.below A4);have HR:=q_ (Rd.start hD A4);have HB:=q_ B0;have A5:=hD.lt;have A6:=h_ (∀ k,(fun k=>X k\/k=w) k->k<W) (fun k hk=>by rcases hk with hk | hk;have:=hX k hk;omega;omega);have Ad:=q_ hXd;have Ai:(w:Nat)<W:=by omega
 clear hD A4 Af hX hXd B0;go_enter func36,ntmps36;go_upto_region 1 with fail;rw [<-hW];clear hW;go_wp2_with fail;refine (program_m d (fun k=>X k\/k=w) W HD.o A6.o (.inl Ad.o)).mono ?_;rintro e w1 ⟨⟨A,rfl,hP⟩,A1⟩;have Aa:=q_ (HR.o.trans A1);have A7:=q_ (HB.o.kp A1.kp (fun h=>by have h:w=d:=h;omega));have Ag:(W:Nat)<=w1:=A1.kp.size;clear A1;go_wp2_with fail;refine (Lower_t (fun k=>X k\/k=w) 3 d_ A 3 3 w1 hP.o d_ d_ (fun k hk=>by have:=A6.o k hk;omega)).mono ?_;rintro e w2 ⟨⟨LA,ln,lc,v,s,ev,rfl,hL⟩,A3⟩;have Ab:=q_ (Aa.o.below A3);have A8:=q_ (A7.o.below A3);have Aj:(W:Nat)<=w2:=Nat.le_trans Ag A3.size;obtain ⟨V,hV,A2,Ae,V0⟩:=af_ w2 [.slice LA ln lc,i_ v,i_ s] 26;have Ac:=q_ (Ab.o.below A2);have A0:=q_ (A8.o.below A2);have A9:=q_ (hL.o.up (Kp.of_below A2) (l_));have v0:=V0.2.1 0 _ rfl;have v1:=V0.2.1 1 _ rfl;have v2:=V0.2.1 2 _ rfl;have Ah:(w:Nat)<V:=by omega
 clear A3 hL A2 Ae V0;go_upto_region 2 with fail;rw [<-hV];clear hV;have r0:=A0.o.2.1 0 _ rfl;have r1:=A0.o.2.1 1 _ rfl;have r2:=A0.o.2.1 2 _ rfl;have rf:=A0.o.2.2;go_wp2_with fail;refine retC results36 za_ underlying26 rfl k_ (cs:=[_,_,_]) (((A0.o.set 0 _).set 1 _).set 2 _).whole rfl ?_;refine ⟨⟨_,_,_,_,_,rfl,q_ (((A9.o.up (((Kp.refl _ V).setCell (p:=(a_ w)) (.inl (.inr rfl)) _).trans (((Kp.refl _ _).setCell (p:=(f_ w 1)) (.inl (.inr rfl)) _).trans ((Kp.refl _ _).setCell (p:=(f_ w 2)) (.inl (.inr rfl)) _))) (l_))).kept (Kp.refl _ _) (fun k _ h h2=>h (.inl h2)) (l_))⟩,?_⟩;exact ((Ac.o.set (p:=(a_ w)) A5 (l_) _).set (p:=(f_ w 1)) A5 (l_) _).set (p:=(f_ w 2)) A5 (l_) _
def owI:Nat->Option TypeId:=fun j=>if j=0 then some 2 else none
def owN:Nat->Option TypeId:=fun j=>if j=0 then some 3 else none
theorem infoI64:(prog.info? 2).map (fun i=>(i.zero,i.size,i.bytes))=some (some (i_ 0),1,8):=by kernel_rfl
def RNums (X:NP) (K:Nat) (e:Ending) (w:World):Prop:=∃ (A:OA) (n c:Nat),e=.returned (.agg #[.slice A n c])/\Hid (SlT w X K [.num] A n c)
theorem Fs.grow {d b i N:Nat} {X Y:NP} {w w1 w2:World} {L:List LV} {C:Nat->VL} {et:TypeId} {A A':OA} {n c c':Nat} {ow:Nat->Option TypeId} (h:Fs d X w L Y C w1) (hp:L[i]?=some ⟨b,fun _=>N,[.sl [.num]],ow⟩) (ho:ow 0=some et) (hC:(C b)[0]?=some (.slice A n c))
  (hO:OwT w2 0 et [.num] Y N A' (n+1) c') (hn:n+1<=N) (hg:w1.grownBy w2 (Value.slice A n c).ownBlock) (hloc:∀ g,(Value.slice A' (n+1) c').ownBlock=some g->(Value.slice A n c).ownBlock=some g\/g=w1) :
  ∃ Y',Fs d X w L Y' (upd C b ((C b).set 0 (.slice A' (n+1) c'))) (w2.setCell (a_ b) (.slice A' (n+1) c'))/\Up w1 Y (w2.setCell (a_ b) (.slice A' (n+1) c')) Y':=by
 obtain ⟨w0,h1,h2,h3⟩:=h;obtain ⟨Y',f,u⟩:=h3.append hp (j:=0) rfl ho hC hO hn hg hloc;exact ⟨Y',⟨w0,h1,h2,f⟩,u⟩
theorem World_m (d:Nat) (X:NP) (w:World) (hD:Dice w d) (hX:∀ k,X k->k<w) (hXd:X d) :
  Calls prog 37 #[.pointer (some (a_ d))] w fun e w'=>RNums X 10 e w'/\Rd d w w':=by
 obtain ⟨i0,Ah,Ai,Aj,Ak⟩:=info_parts infoI64;obtain ⟨W0,Y0,C0,As,AH,U0,F0,c0⟩:=Fr.start1 hX 10 [.sl [.num]] [.slice none 0 0] 29 (vts1 (cp_ _ _ _ _));obtain ⟨Y,F,U⟩:=F0.add (fun _=>10) [.sl [.num]] owI [.slice none 0 0] 29 rfl (fun j t hj=>by
  match j,hj with
  | 0,hj=>injection hj with hj;subst hj;exact ⟨_,rfl,.inr ⟨_,_,rfl,rfl,rfl⟩⟩)
 obtain ⟨W,hW⟩:=ex_ ((w.alloc (.cells #[.slice none 0 0] 29)).alloc (.cells #[.slice none 0 0] 29));rw [As] at F;rw [show ((w.alloc (.cells [Value.slice none 0 0].toArray 29)).alloc (.cells [Value.slice none 0 0].toArray 29))=W from hW.symm,show (w.alloc (.cells [Value.slice none 0 0].toArray 29)).heap.size=w+1 from by simp] at F;obtain ⟨C,hC⟩:=ex_ (upd C0 (w+1) [.slice none 0 0]);rw [<-hC] at F;have Au:(C (w+1))[0]?=some (.slice none 0 0):=by rw [hC,upd_same];rfl
 have HF:=q_ (F.fs hD);have Ag:=q_ hXd;have AB:=q_ hX;have AC:=hD.lt;have Am:=q_ (HF.o.dice);clear hD hX hXd As AH U0 F0 c0 F U hC;go_enter func37,ntmps37;go_upto_region 2 with fail;rw [<-hW];clear hW;go_wp2_with fail;refine (bn_ d 6 W Am.o d_ d_).mono ?_;rintro e w1 ⟨q0,AE,rfl,Ax,_⟩;obtain ⟨Av,_⟩:=HF.o.pick Ag.o Ax;have Az:=q_ Av;have Ay:=q_ Au;clear Av Ax HF Am Au;go_wp2_with fail;go_loopw [4] (fun i wr=>∃ (Y':NP) (C':Nat->VL) (A:OA) (n c:Nat),n<=q0/\i=i_ ((q0:Int) - (n:Int))/\(C' (w+1))[0]?=some (.slice A n c)/\Hid (Fs d X w [⟨w+1,fun _=>10,[.sl [.num]],owI⟩,⟨w,fun _=>10,[.sl [.num]],noOw⟩] Y' C' wr)) (fun i _=>(intOf i).toNat)
 case atStart=>exact ⟨Y,C,none,0,0,o_,zj_,Ay.o,Az⟩
 obtain ⟨Y',C',A,n,c,AI,rfl,hc,A8⟩:=hrel;have HC:=q_ hc;by_cases hk:n<q0
 ·have AD:(0:Int)<(q0:Int) - (n:Int):=by omega
  obtain ⟨w0,A3,A4,f⟩:=A8.o;have hd:=A8.o.dice;have c0:=f.cell (i:=0) rfl hc;have AG:=f.blt (i:=0) rfl;have Ao:=h_ (∀ w',wr.drew.grownBy w' (some d)->w'.cell? (a_ (w+1))=some (.slice A n c)) (fun w' hg=>((gcell hg).1 _ _ (by show _<(wr:Nat);exact AG) (fun e=>by injection e with e;omega)).trans c0);have Al:=q_ (hd.below (Below.drew (b_)));have An:=q_ (A8.o.call (Below.drew (b_)));clear hc f hd A3 A4 A8;go_upto_region 5 with fail;have Ap:wr.drew.cell? (a_ (w+1))=some (.slice A n c):=c0;clear c0;refine aq_ (S:=fun _:World=>True) rfl trivial (fun _=>?_);go_simp;refine aa_ 0 11 ?_;refine aa_ 2 13 ?_;refine wpAnyH_ready (rs:=[1,3]) k_ t_ (AllReadyH.cons rfl (fun K hK=>?_) (AllReadyH.cons rfl (fun K hK=>?_) AllReadyH.nil))
  ·go_simp;refine hK.out _ _ trivial (fun _=>?_);refine bc_ 3 fun K hK=>?_
   go_simp;go_at_call 26;refine (bn_ d 9 wr.drew Al.o d_ d_).mono ?_;rintro e w3 ⟨r,hr,rfl,Aa,A9⟩;have Af:=q_ (Ao.o w3 Aa.grown);have c3:=Af.o;obtain ⟨Ad,_⟩:=An.o.pick Ag.o Aa;have A7:=q_ Ad;clear Ad Aa A9 Ap;refine hK.out _ _ trivial (fun _=>?_);refine aa_ 4 15 ?_;refine ba_ 5 k_ rfl (fun K hK=>?_);go_simp;have A5:Below w3 w3 (w3.alloc (.cells #[i_ (IntKind.i64.wrap ((r:Int) - 3))] 2)):=(b_).alloc (l_) _;have A0:=q_ (A7.o.call A5);have Ac:=h_ (SlT (w3.alloc (.cells #[i_ (IntKind.i64.wrap ((r:Int) - 3))] 2)) (Wi Y' (Value.slice A n c).ownBlock) 10 [.num] (some (a_ w3)) 1 1) (SlT.lit1 (e:=[.num]) (VTs.cons (.num _) VTs.nil) _ (fun h=>by
    obtain ⟨w0,_,_,f⟩:=A7.o
    rcases h with h | h
    ·have:=f.lt _ h;omega
    obtain ⟨_,A2,n2,c2,_,h2,_,h4,h5⟩:=f.row _ (Fr.mem (i:=0) rfl) 0 (.sl [.num]) 2 rfl rfl
    have h2:(C' (w+1))[0]?=some (.slice A2 n2 c2):=h2
    rw [HC.o] at h2
    injection h2 with h2
    injection h2 with q1 q2 q3
    subst q1 q2 q3
    have:=f.lt _ (h5 _ h).1;omega) o_)
   have c5:(w3.alloc (.cells #[i_ (IntKind.i64.wrap ((r:Int) - 3))] 2)).cell? (a_ (w+1))=some (.slice A n c):=by obtain ⟨w0,_,_,f⟩:=A0.o;exact f.cell (i:=0) rfl HC.o
   clear A5;refine hK.out _ _ trivial (fun _=>?_);refine bc_ 6 fun K hK=>?_
   obtain ⟨w0,A3,A4,f5⟩:=A0.o;obtain ⟨A2,n2,c2,_,h2,Aw,hO,hY⟩:=f5.own (i:=0) (j:=0) (e:=[.num]) rfl rfl (show owI 0=some 2 from rfl);rw [HC.o] at h2;injection h2 with h2;injection h2 with q1 q2 q3;subst q1 q2 q3;have A1:=q_ f5.lt;refine br_ rfl (.tmp 12) (.tmp 16) 27 rfl 0 2 i0 _ 8 [.num] Y' 10 underlying27 Ah Ai Aj Ak rfl d_ A n c v_ hO (some (a_ w3)) 1 1 v_ Ac.o A1.o m_ o_ (Nat.zero_le _) ?_;intro A6 c6 w6 o6 g6 l6;have O6:=q_ o6;have G6:=q_ g6;have L6:=q_ l6;have Aq:w6.cell? (a_ (w+1))=some (.slice A n c):=(f5.cv_ (i:=0) rfl (j:=0) rfl (show owI 0=some 2 from rfl) HC.o g6).2.1 0 _ HC.o;have Ar:=(f5.cv_ (i:=0) rfl (j:=0) rfl (show owI 0=some 2 from rfl) HC.o g6).2.2;clear A3 A4 f5 hO hY o6 g6 l6;refine hK.out _ _ trivial (fun _=>?_);refine aa_ 7 18 ?_;refine ba_ 8 k_ rfl (fun K hK=>?_);go_simp;refine hK.out _ _ trivial (fun _=>?_);try simp only [Act.put,sA,s0,s1]
   refine wpAnyH_done k_ ?_ _;go_wp2_with fail;obtain ⟨Y9,Ae,_⟩:=A0.o.grow (i:=0) rfl (show owI 0=some 2 from rfl) HC.o O6.o o_ G6.o L6.o;have Ab:=q_ Ae;go_roundw
   case rel=>exact ⟨Y9,_,A6,n+1,c6,o_,zb_,yj_,Ab⟩
   case measure=>exact me_
  go_simp;go_at_call 26;refine (bn_ d 9 wr.drew Al.o d_ d_).mono ?_;rintro e w3 ⟨r,hr,rfl,Aa,A9⟩;have Af:=q_ (Ao.o w3 Aa.grown);have c3:=Af.o;obtain ⟨Ad,_⟩:=An.o.pick Ag.o Aa;have A7:=q_ Ad;clear Ad Aa A9 Ap;refine hK.out _ _ trivial (fun _=>?_);refine aa_ 4 15 ?_;refine wpAnyH_ready (rs:=[1,5]) k_ t_ (AllReadyH.cons rfl (fun K hK=>?_) (AllReadyH.cons rfl (fun K hK=>?_) AllReadyH.nil))
  ·go_simp;refine hK.out _ _ trivial (fun _=>?_);refine bc_ 5 fun K hK=>?_
   go_simp;have A5:Below w3 w3 (w3.alloc (.cells #[i_ (IntKind.i64.wrap ((r:Int) - 3))] 2)):=(b_).alloc (l_) _;have A0:=q_ (A7.o.call A5);have Ac:=h_ (SlT (w3.alloc (.cells #[i_ (IntKind.i64.wrap ((r:Int) - 3))] 2)) (Wi Y' (Value.slice A n c).ownBlock) 10 [.num] (some (a_ w3)) 1 1) (SlT.lit1 (e:=[.num]) (VTs.cons (.num _) VTs.nil) _ (fun h=>by
    obtain ⟨w0,_,_,f⟩:=A7.o
    rcases h with h | h
    ·have:=f.lt _ h;omega
    obtain ⟨_,A2,n2,c2,_,h2,_,h4,h5⟩:=f.row _ (Fr.mem (i:=0) rfl) 0 (.sl [.num]) 2 rfl rfl
    have h2:(C' (w+1))[0]?=some (.slice A2 n2 c2):=h2
    rw [HC.o] at h2
    injection h2 with h2
    injection h2 with q1 q2 q3
    subst q1 q2 q3
    have:=f.lt _ (h5 _ h).1;omega) o_)
   have c5:(w3.alloc (.cells #[i_ (IntKind.i64.wrap ((r:Int) - 3))] 2)).cell? (a_ (w+1))=some (.slice A n c):=by obtain ⟨w0,_,_,f⟩:=A0.o;exact f.cell (i:=0) rfl HC.o
   clear A5;refine hK.out _ _ trivial (fun _=>?_);refine bc_ 6 fun K hK=>?_
   obtain ⟨w0,A3,A4,f5⟩:=A0.o;obtain ⟨A2,n2,c2,_,h2,Aw,hO,hY⟩:=f5.own (i:=0) (j:=0) (e:=[.num]) rfl rfl (show owI 0=some 2 from rfl);rw [HC.o] at h2;injection h2 with h2;injection h2 with q1 q2 q3;subst q1 q2 q3;have A1:=q_ f5.lt;refine br_ rfl (.tmp 12) (.tmp 16) 27 rfl 0 2 i0 _ 8 [.num] Y' 10 underlying27 Ah Ai Aj Ak rfl d_ A n c v_ hO (some (a_ w3)) 1 1 v_ Ac.o A1.o m_ o_ (Nat.zero_le _) ?_;intro A6 c6 w6 o6 g6 l6;have O6:=q_ o6;have G6:=q_ g6;have L6:=q_ l6;have Aq:w6.cell? (a_ (w+1))=some (.slice A n c):=(f5.cv_ (i:=0) rfl (j:=0) rfl (show owI 0=some 2 from rfl) HC.o g6).2.1 0 _ HC.o;have Ar:=(f5.cv_ (i:=0) rfl (j:=0) rfl (show owI 0=some 2 from rfl) HC.o g6).2.2;clear A3 A4 f5 hO hY o6 g6 l6;refine hK.out _ _ trivial (fun _=>?_);refine aa_ 7 18 ?_;refine ba_ 8 k_ rfl (fun K hK=>?_);go_simp;refine hK.out _ _ trivial (fun _=>?_);try simp only [Act.put,sA,s0,s1]
   refine wpAnyH_done k_ ?_ _;go_wp2_with fail;obtain ⟨Y9,Ae,_⟩:=A0.o.grow (i:=0) rfl (show owI 0=some 2 from rfl) HC.o O6.o o_ G6.o L6.o;have Ab:=q_ Ae;go_roundw
   case rel=>exact ⟨Y9,_,A6,n+1,c6,o_,zb_,yj_,Ab⟩
   case measure=>exact me_
  go_simp;have A5:Below w3 w3 (w3.alloc (.cells #[i_ (IntKind.i64.wrap ((r:Int) - 3))] 2)):=(b_).alloc (l_) _;have A0:=q_ (A7.o.call A5);have Ac:=h_ (SlT (w3.alloc (.cells #[i_ (IntKind.i64.wrap ((r:Int) - 3))] 2)) (Wi Y' (Value.slice A n c).ownBlock) 10 [.num] (some (a_ w3)) 1 1) (SlT.lit1 (e:=[.num]) (VTs.cons (.num _) VTs.nil) _ (fun h=>by
   obtain ⟨w0,_,_,f⟩:=A7.o
   rcases h with h | h
   ·have:=f.lt _ h;omega
   obtain ⟨_,A2,n2,c2,_,h2,_,h4,h5⟩:=f.row _ (Fr.mem (i:=0) rfl) 0 (.sl [.num]) 2 rfl rfl
   have h2:(C' (w+1))[0]?=some (.slice A2 n2 c2):=h2
   rw [HC.o] at h2
   injection h2 with h2
   injection h2 with q1 q2 q3
   subst q1 q2 q3
   have:=f.lt _ (h5 _ h).1;omega) o_)
  have c5:(w3.alloc (.cells #[i_ (IntKind.i64.wrap ((r:Int) - 3))] 2)).cell? (a_ (w+1))=some (.slice A n c):=by obtain ⟨w0,_,_,f⟩:=A0.o;exact f.cell (i:=0) rfl HC.o
  clear A5;refine hK.out _ _ trivial (fun _=>?_);refine bc_ 1 fun K hK=>?_
  go_simp;refine hK.out _ _ trivial (fun _=>?_);refine bc_ 6 fun K hK=>?_
  obtain ⟨w0,A3,A4,f5⟩:=A0.o;obtain ⟨A2,n2,c2,_,h2,Aw,hO,hY⟩:=f5.own (i:=0) (j:=0) (e:=[.num]) rfl rfl (show owI 0=some 2 from rfl);rw [HC.o] at h2;injection h2 with h2;injection h2 with q1 q2 q3;subst q1 q2 q3;have A1:=q_ f5.lt;refine br_ rfl (.tmp 12) (.tmp 16) 27 rfl 0 2 i0 _ 8 [.num] Y' 10 underlying27 Ah Ai Aj Ak rfl d_ A n c v_ hO (some (a_ w3)) 1 1 v_ Ac.o A1.o m_ o_ (Nat.zero_le _) ?_;intro A6 c6 w6 o6 g6 l6;have O6:=q_ o6;have G6:=q_ g6;have L6:=q_ l6;have Aq:w6.cell? (a_ (w+1))=some (.slice A n c):=(f5.cv_ (i:=0) rfl (j:=0) rfl (show owI 0=some 2 from rfl) HC.o g6).2.1 0 _ HC.o;have Ar:=(f5.cv_ (i:=0) rfl (j:=0) rfl (show owI 0=some 2 from rfl) HC.o g6).2.2;clear A3 A4 f5 hO hY o6 g6 l6;refine hK.out _ _ trivial (fun _=>?_);refine aa_ 7 18 ?_;refine ba_ 8 k_ rfl (fun K hK=>?_);go_simp;refine hK.out _ _ trivial (fun _=>?_);try simp only [Act.put,sA,s0,s1]
  refine wpAnyH_done k_ ?_ _;go_wp2_with fail;obtain ⟨Y9,Ae,_⟩:=A0.o.grow (i:=0) rfl (show owI 0=some 2 from rfl) HC.o O6.o o_ G6.o L6.o;have Ab:=q_ Ae;go_roundw
  case rel=>exact ⟨Y9,_,A6,n+1,c6,o_,zb_,yj_,Ab⟩
  case measure=>exact me_
 have AD:¬(0:Int)<(q0:Int) - (n:Int):=by omega
 obtain ⟨w0,A3,A4,f⟩:=A8.o;have c0:=f.cell (i:=0) rfl hc;have r0:=f.box (i:=1) rfl;have AF:=r0;obtain ⟨_,_,_,z0,_,_⟩:=f.slc (i:=1) rfl (j:=0) rfl rfl;have zf:=f.fz (i:=1) rfl;obtain ⟨A2,n2,c2,h2,hs⟩:=f.row_out (i:=0) rfl (j:=0) (e:=[.num]) rfl (show owI 0=some 2 from rfl) (X':=fun q=>X q\/q=w) (fun q hq=>by
  rcases hq with hq | hq
  ·exact ⟨f.sub q hq,.inl (by rw [A3.1];exact AB.o q hq)⟩
  subst hq;exact ⟨(f.blk _ (Fr.mem (i:=1) rfl)).1,.inr ⟨_,Fr.mem (i:=1) rfl,rfl⟩⟩)
 rw [hc] at h2;injection h2 with h2;injection h2 with q1 q2 q3;subst q1 q2 q3;have AA:=q_ hs;have HE:=q_ A8.o.end_;have HB:=q_ r0;clear hs A3 A4 f r0 AF;go_wp2_with fail;refine retC results37 za_ underlying29 rfl k_ (cs:=[.slice A n c]) ?_ rfl ?_
 ·have hl:0<(C' w).length:=by
   obtain ⟨_,_,_,f⟩:=A8.o;rw [f.len (i:=1) rfl];decide
  intro j u hj;have h3:=(HB.o.set 0 (.slice A n c)).whole;refine h3 j u ?_
  match j,hj with
  | 0,hj=>rw [gs_,if_pos rfl,if_pos hl];exact hj
 exact ⟨⟨A,n,c,rfl,q_ ((AA.o.up ((Kp.refl _ wr).setCell (p:=(a_ w)) (.inl (.inr rfl)) _) (l_)).kept (Kp.refl _ _) (fun q _ h h2=>h (.inl h2)) (l_))⟩,HE.o.set AC (l_) _⟩
theorem Division_m (d:Nat) (X:NP) (K:Nat) (A:OA) (n c:Nat) (v s:Int) (l:List In) (w:World) (hD:Dice w d) (hX:∀ k,X k->k<w) (hXd:X d) (hco:SlT w X K aw_ A n c) (hl:Sl w w 5 In.cells A n l) (hK:K<=900000000) :
  Calls prog 38 #[.pointer (some (a_ d)),.agg #[.slice A n c,i_ v,i_ s]] w fun e w'=>RNums X 2049 e w'/\Rd d w w':=by
 obtain ⟨i0,AM,AO,AP,AQ⟩:=info_parts infoInt;have B2:=hco.le;obtain ⟨W,Y,C,hW,hz,U,F,e0,e1⟩:=Fr.start2 hX K [.sl aw_,.num,.num] [.slice A n c,i_ v,i_ s] 26 (VTs.cons hco.vt (VTs.cons (.num _) (VTs.cons (.num _) VTs.nil))) 2049 [.sl [.num]] [.slice none 0 0] 32 (vts1 (cp_ _ _ _ _));have HL:=q_ (hl.go hco U);have x0:=F.cell (i:=1) rfl (j:=0) (by rw [e0];rfl);have x1:=F.cell (i:=1) rfl (j:=1) (by rw [e0];rfl);have x2:=F.cell (i:=1) rfl (j:=2) (by rw [e0];rfl);have HF:=q_ F;have HD:=q_ hD;have Ar:=q_ hXd;have AK:=q_ hX;have B0:=hD.lt;have A4:d<w+1:=by omega
 have Aq:W=(w.alloc (.cells #[.slice A n c,i_ v,i_ s] 26)).alloc (.cells #[.slice none 0 0] 32):=hW;clear hD hX hXd hco hl U F e0 e1 hW;go_enter func38,ntmps38;go_upto_region 1 with fail;rw [<-Aq];clear Aq;go_wp2_with fail;refine (Every_t Y 2049 A n c v s l W HL.o o_ (l_) HF.o.lt).mono ?_;rintro e E ⟨⟨DA,dn,dc,rfl,hE⟩,Au⟩;have F1:=q_ (HF.o.call Au);obtain ⟨V,Y2,C2,hV,AX,u2,f2,As,AL⟩:=F1.o.add1 2049 [.sl [.num]] [.slice DA dn dc] 32 (vts1 hE.o);have An:=q_ (hE.o.go u2 (l_));have HS:=q_ (f2.fs HD.o);have Ac:=h_ ((C2 E)[0]?=some (.slice DA dn dc)) (by rw [As];rfl);have AW:(w:Nat)+1<E:=F1.o.blt (i:=0) rfl;have Am:=q_ HS.o.dice;clear Au hE u2 f2 As AL x0 x1 x2 F1;go_upto_region 2 with fail;rw [<-hV];clear hV;go_wp2_with fail;refine (bn_ d 3 V Am.o d_ d_).mono ?_;rintro e w3 ⟨r,hr,rfl,Ay,AS⟩;obtain ⟨Aw,AA⟩:=HS.o.pick Ar.o Ay;have Ag:=q_ Aw;have Ae:=q_ (An.o.go AA (l_));have Aj:(w3:Nat)=E+1:=by omega
 clear Ay AS Aw AA HS An Am;obtain ⟨w0,A0,A1,f⟩:=Ag.o;by_cases hr0:(r:Int)=0
 case pos =>
  have c5:=f.cell (i:=0) rfl Ac.o;have HB:=q_ (f.box (i:=1) rfl);have Ad:=h_ (0<(C2 (w+1)).length) (by rw [f.len (i:=1) rfl];decide);obtain ⟨_,_,_,z0,_,_⟩:=f.slc (i:=1) rfl (j:=0) rfl rfl;have zf:=f.fz (i:=1) rfl;have A6:=h_ (SlT w3 (fun q=>X q\/q=w+1) 2049 [.num] DA dn dc) (Ae.o.less' (fun q _ hq=>by rcases hq with hq | hq;exact f.sub q hq;subst hq;exact (f.blk _ (Fr.mem (i:=1) rfl)).1));have A3:=q_ Ag.o.end_;obtain ⟨A9,n9,c9,q1,q2,q3⟩:∃ A9 n9 c9,A9=DA/\n9=dn/\c9=dc:=⟨_,_,_,rfl,rfl,rfl⟩;rw [<-q1,<-q2,<-q3] at A6 c5;clear q1 q2 q3 f A0 A1;go_wp2_with fail;refine retC results38 za_ underlying32 rfl k_ (cs:=[.slice A9 n9 c9]) ?_ rfl ?_
  ·intro j u hj;refine (HB.o.set 0 (.slice A9 n9 c9)).whole j u ?_
   match j,hj with
   | 0,hj=>rw [gs_,if_pos rfl,if_pos Ad.o];exact hj
  exact v8_
 have B4:((r:Int) == 0)=false:=by simp;omega
 clear hr0;obtain ⟨Y4,f4,u4⟩:=f.add (fun _=>2049) [.sl [.num]] owN [.slice none 0 0] 32 rfl (fun j t hj=>by
  match j,hj with
  | 0,hj=>injection hj with hj;subst hj;exact ⟨_,rfl,.inr ⟨_,_,rfl,rfl,rfl⟩⟩)
 obtain ⟨V4,Ai⟩:=ex_ (w3.alloc (.cells #[.slice none 0 0] 32));rw [show w3.alloc (.cells [Value.slice none 0 0].toArray 32)=V4 from Ai.symm] at f4 u4;rw [Aj] at f4;have Ao:=q_ (Ae.o.go u4 (l_));obtain ⟨C4,A7⟩:=ex_ (upd C2 (E+1) [.slice none 0 0]);rw [<-A7] at f4;have AE:=h_ ((C4 (E+1))[0]?=some (.slice none 0 0)) (by rw [A7,upd_same];rfl);have AD:=h_ ((C4 E)[0]?=some (.slice DA dn dc)) (by rw [A7,ad_ _ _ o_];exact Ac.o);have AJ:=h_ (Fs d X w [⟨E+1,fun _=>2049,[.sl [.num]],owN⟩,⟨E,fun _=>2049,[.sl [.num]],noOw⟩,⟨w+1,fun _=>2049,[.sl [.num]],noOw⟩,⟨w,fun _=>K,[.sl aw_,.num,.num],noOw⟩] Y4 C4 V4) (⟨w0,A0,A1,f4⟩);have c5:=f4.cell (i:=1) rfl AD.o;clear f A0 A1 f4 u4 A7 Ag Ae Ac;go_upto_region 5 with fail;rw [<-Ai];clear Ai;go_wp2_with fail;have AZ:=Ao.o.le;clear c5;go_loopw [18] (fun i wr=>∃ (k:Nat) (Y':NP) (C':Nat->VL) (A:OA) (n c:Nat),k<=dn/\n<=k/\i=i_ k/\(C' (E+1))[0]?=some (.slice A n c)/\Hid (Fs d X w [⟨E+1,fun _=>2049,[.sl [.num]],owN⟩,⟨E,fun _=>2049,[.sl [.num]],noOw⟩,⟨w+1,fun _=>2049,[.sl [.num]],noOw⟩,⟨w,fun _=>K,[.sl aw_,.num,.num],noOw⟩] Y' C' wr)/\Hid (SlT wr Y' 2049 [.num] DA dn dc)) (fun i _=>dn - (intOf i).toNat)
 case atStart=>exact ⟨0,Y4,C4,none,0,0,o_,o_,rfl,AE.o,AJ,Ao⟩
 obtain ⟨k,Y',C',A9,n9,c9,hk,B3,rfl,hc,A5,Ab⟩:=hrel;have HC:=q_ hc;clear hc;by_cases hkn:k<dn
 ·have AN:(k:Int)<(dn:Int):=by omega
  obtain ⟨g,o,rfl,hg,x,hx⟩:=Ab.o.num_at hkn;have e0:=hx wr (b_);have Al:=q_ A5.o.dice;clear hx;go_wp2_with fail;refine (bn_ d 2 wr Al.o d_ d_).mono ?_;rintro e w6 ⟨r6,AR,rfl,Az,AT⟩;obtain ⟨Ax,AB⟩:=A5.o.pick Ar.o Az;have Ah:=q_ Ax;have Ap:=q_ (Ab.o.go AB (l_));clear Az AT Ax AB A5 Ab Al e0;by_cases AR:(r6:Int)=0
  ·obtain ⟨w9,A0,A1,f⟩:=Ah.o;have c7:=f.cell (i:=0) rfl HC.o;have Aa:Below w6 w6 (w6.alloc (.cells #[i_ x] 3)):=(b_).alloc (l_) _;obtain ⟨A2,n2,c2,_,h2,B1,hO,hY⟩:=f.own (i:=0) (j:=0) (e:=[.num]) rfl rfl (show owN 0=some 3 from rfl);rw [HC.o] at h2;injection h2 with h2;injection h2 with q1 q2 q3;subst q1 q2 q3;have AH:=h_ (SlT (w6.alloc (.cells #[i_ x] 3)) (Wi Y' (Value.slice A9 n9 c9).ownBlock) 2049 [.num] (some (a_ w6)) 1 1) (SlT.lit1 (e:=[.num]) (VTs.cons (.num _) VTs.nil) _ (fun h=>by
    rcases h with h | h
    ·have:=f.lt _ h;omega
    have:=f.lt _ (hY _ h);omega) o_)
   have AF:=q_ (Ah.o.call Aa);have f7:=f.call Aa;have AI:=h_ (OwT (w6.alloc (.cells #[i_ x] 3)) 0 3 [.num] Y' 2049 A9 n9 c9) (hO.stay (cf_ Aa none) (fun _ h=>by cases h));have Af:=q_ f7.lt;have Ak:=q_ (fun w' (hg:(w6.alloc (.cells #[i_ x] 3)).grownBy w' (Value.slice A9 n9 c9).ownBlock)=>f7.cv_ (i:=0) rfl (j:=0) rfl (show owN 0=some 3 from rfl) HC.o hg);have AY:(E:Nat)+1<(w6.alloc (.cells #[i_ x] 3)).heap.size:=f7.blt (i:=0) rfl;clear f7 f A0 A1 hO hY Aa;go_upto_region 10 with (at_builtin;refine ao_ rfl _ _ 30 rfl 0 3 i0 _ 8 [.num] Y' 2049 underlying30 AM AO AP AQ rfl d_ A9 n9 c9 v_ AI.o (some (a_ w6)) 1 1 v_ AH.o Af.o m_ o_ (Nat.zero_le _) ?_;intro A8 c8 w8 o8 g8 l8;have O8:=q_ o8;have G8:=q_ g8;have L8:=q_ l8;clear c7;have AU:=(Ak.o w8 g8).2.1 0 _ HC.o;have AV:=(Ak.o w8 g8).2.2;clear o8 g8 l8);obtain ⟨Y9,Av,AC⟩:=AF.o.grow (i:=0) rfl (show owN 0=some 3 from rfl) HC.o O8.o o_ G8.o L8.o;have AG:=q_ Av;have A3:=q_ ((Ap.o.up (Kp.of_below ((b_).alloc (l_) _)) (l_)).go AC (l_));clear Av AC;go_wp2_with fail;go_roundw
   case rel=>exact ⟨k+1,Y9,_,A8,n9+1,c8,o_,o_,zb_,yj_,AG,A3⟩
   case measure=>exact me_
  go_wp2_with fail;go_roundw
  case rel=>exact ⟨k+1,Y',C',A9,n9,c9,o_,o_,zb_,HC.o,Ah,Ap⟩
  case measure=>exact me_
 have AN:¬(k:Int)<(dn:Int):=by omega
 obtain ⟨w9,A0,A1,f⟩:=A5.o;have c0:=f.cell (i:=0) rfl HC.o;have HB:=q_ (f.box (i:=2) rfl);have Ad:=h_ (0<(C' (w+1)).length) (by rw [f.len (i:=2) rfl];decide);obtain ⟨_,_,_,z0,_,_⟩:=f.slc (i:=2) rfl (j:=0) rfl rfl;have zf:=f.fz (i:=2) rfl;obtain ⟨A2,n2,c2,h2,hs⟩:=f.row_out (i:=0) rfl (j:=0) (e:=[.num]) rfl (show owN 0=some 3 from rfl) (X':=fun q=>X q\/q=w+1) (fun q hq=>by
  rcases hq with hq | hq
  ·exact ⟨f.sub q hq,.inl (by rw [A0.1];exact AK.o q hq)⟩
  subst hq;exact ⟨(f.blk _ (Fr.mem (i:=2) rfl)).1,.inr ⟨_,Fr.mem (i:=2) rfl,rfl⟩⟩)
 rw [HC.o] at h2;injection h2 with h2;injection h2 with q1 q2 q3;subst q1 q2 q3;have A6:=q_ hs;have A3:=q_ A5.o.end_;clear hs A0 A1 f Ab;go_wp2_with fail;refine retC results38 za_ underlying32 rfl k_ (cs:=[.slice A9 n9 c9]) ?_ rfl ?_
 ·intro j u hj;refine (HB.o.set 0 (.slice A9 n9 c9)).whole j u ?_
  match j,hj with
  | 0,hj=>rw [gs_,if_pos rfl,if_pos Ad.o];exact hj
 exact v8_
end Go.Proofs.YtfolidlmgfhkiaaGreat
