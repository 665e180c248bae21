/- Lemmas on functions of the program, under the conditions that each states. -/
import Derived.Test.YtfolidlmgfhkiaaGreatV23
set_option linter.unusedVariables false
set_option linter.unusedSimpArgs false
set_option maxRecDepth 100000
set_option maxHeartbeats 4000000
namespace Go.Proofs.YtfolidlmgfhkiaaGreat
open Go.RowKit Go.Proofs.Tryz
theorem StC.go {w w':World} {A:OA} {k:Nat} {kd:Int} {s f:ByteArray} {n op:Int} {E B C:OA} {m c m1 c1 m2 c2 g o:Nat} {G G':NP} (h:StC w A k kd s f n op E B C m c m1 c1 m2 c2 g o) (u:Up w G w' G') (hg:¬G g):StC w' A k kd s f n op E B C m c m1 c1 m2 c2 g o:=by
 have hc:∀ j,w'.cell? (f_ g j)=w.cell? (f_ g j):=fun j=>u.kp.cell h.lt hg
 exact ⟨h.hA,lt_ h.lt u.kp.size,(hc _).trans h.k0,(hc _).trans h.k1,(hc _).trans h.k2,(hc _).trans h.k3,(hc _).trans h.k4,(hc _).trans h.k5,(hc _).trans h.k6,(hc _).trans h.k7⟩
def StmC (b F:Nat) (pv:Nat->Value) (cst:Nat) (w:World) (G:NP) (om:Nat) (v:Value):Prop:=∀ (w':World) (G':NP) (qs':List Nat) (N' o:Nat),GC b F pv qs' N' N' o G' w'->Up w G w' G'->N'+cst<=10000000000->o<=om->Calls prog 165 #[.pointer (some (a_ b)),v] w' fun e w''=>e=.returned (.tuple #[])/\RG b F pv qs' N' o G' w' cst w''
theorem list_step (b F:Nat) (pv:Nat->Value) (cst om:Nat) (w:World) (G:NP) (B:OA) (nb cb:Nat) (hnb:nb<=20)
  (hk:∀ k,k<nb->∃ (kd:Int) (s f:ByteArray) (nn op:Int) (E B' C:OA) (m c' m1 c1 m2 c2 g o':Nat),StC w B k kd s f nn op E B' C m c' m1 c1 m2 c2 g o'/\¬G g/\StmC b F pv cst w G om (.agg #[i_ kd,.string s,.string f,i_ nn,i_ op,.slice E m c',.slice B' m1 c1,.slice C m2 c2])) :
  LsC b F pv (nb*cst) w G om B nb cb:=fun w0 G0 qs N o hg u0 hN ho=>by
 have H:=q_ hg;have U:=q_ u0;have HK:=q_ hk;clear hg u0 hk;go_enter func111,ntmps111;go_upto_region 1 with fail;go_loopw [8] (fun i wr=>∃ (k:Nat) (G':NP) (qs':List Nat) (N':Nat),k<=nb/\i=i_ k/\Hid (GC b F pv qs' N' N' o G' wr)/\Hid (Up w0 G0 wr G')/\Hid (∀ q ∈ qs,q ∈ qs')/\N<=N'/\N'<=N+k*cst) (fun i _=>nb - (intOf i).toNat)
 case atStart=>exact ⟨0,G0,qs,N,o_,rfl,H,q_ (Up.refl _ _),q_ (fun _ h=>h),l_,o_⟩
 obtain ⟨k,G1,A4,N1,Ac,rfl,H1,U1,Q1,A8,A6⟩:=hrel;by_cases hlt:k<nb
 ·have A1:(k:Int)<(nb:Int):=by omega
  have A7:(k+1)*cst<=nb*cst:=Nat.mul_le_mul_right _ hlt;have A2:(k+1)*cst=k*cst+cst:=Nat.succ_mul _ _;obtain ⟨kd,s,f,nn,op,E,B',C,m,c',m1,c1,m2,c2,g,o',A3,hg,hC⟩:=HK.o k hlt;obtain ⟨rfl,Ab,k0,k1,k2,k3,k4,k5,k6,k7⟩:=A3.go (U.o.trans U1.o) hg;have A5:=q_ hC;have A0:Below wr wr (wr.alloc (.cells #[i_ kd,.string s,.string f,i_ nn,i_ op,.slice E m c',.slice B' m1 c1,.slice C m2 c2] 212)):=(b_).alloc (l_) _;have HA:=q_ (H1.o.below A0);have UA:=q_ (U1.o.trans (Up.of_below A0));clear A3 hC A0;go_wp2_with fail;refine (A5.o _ G1 A4 N1 o HA.o (U.o.trans UA.o) o_ ho).mono ?_;rintro e W2 ⟨rfl,G2,Aa,N2,H2,A9,Ae,Ad,V2⟩;clear k0 k1 k2 k3 k4 k5 k6 k7;go_wp2;go_roundw
  case rel=>exact ⟨k+1,G2,Aa,N2,o_,zb_,H2,q_ (UA.o.trans V2.o),q_ (fun q hq=>A9 q (Q1.o q hq)),o_,o_⟩
  case measure=>exact me_
 have A1:¬(k:Int)<(nb:Int):=by omega
 obtain rfl:k=nb:=by omega
 go_wp2_with fail;refine end0 rfl rfl ?_;exact ⟨rfl,G1,A4,N1,H1,Q1.o,A8,A6,U1⟩
theorem list_nil (b F:Nat) (pv:Nat->Value) (om:Nat) (w:World) (G:NP) (B:OA) (cb:Nat):LsC b F pv 0 w G om B 0 cb:=by
 have:=list_step b F pv 0 om w G B 0 cb o_ (fun k hk=>o_)
 simpa using this
theorem LsC.more {b F cst cst' om nb cb:Nat} {pv:Nat->Value} {w:World} {G:NP} {B:OA} (h:LsC b F pv cst w G om B nb cb) (hc:cst<=cst'):LsC b F pv cst' w G om B nb cb:=fun w2 G2 qs N o hg u2 hN ho=>(h w2 G2 qs N o hg u2 o_ ho).mono (fun e w' hr=>⟨hr.1,hr.2.more hc⟩)
def cl:Nat->Nat
 | 0=>20*800
 | d+1=>20*(800+2*cl d)
structure PgT (w:World) (G:NP) (dp:Nat) (PA:OA) (pn pc:Nat):Prop where
 sl:SlT w G 20 (cx_ dp) PA pn pc
 nm:∀ s,s=nameF\/s=nameG->∃ q,q<pn/\nameAt w PA q s
theorem PgT.go {w w':World} {G G':NP} {dp:Nat} {PA:OA} {pn pc:Nat} (h:PgT w G dp PA pn pc) (u:Up w G w' G'):PgT w' G' dp PA pn pc:=by
 refine ⟨h.sl.go u (l_),fun s hs=>?_⟩;obtain ⟨q,hq,g,o,e1,e2⟩:=h.nm s hs;obtain ⟨fs,P,np,cp,FB,nb,cb,gf,A2,A0,_,_,_,A1⟩:=h.sl.fn hq;have e3:=A0.hA;rw [e1] at e3;injection e3 with e3;injection e3 with e4 e5;subst e4 e5;exact ⟨q,hq,g,o,e1,(u.kp.cell A0.lt A1).trans e2⟩
theorem list_g (b pn:Nat) (pv:Nat->Value) (PA:OA) (pc dp:Nat) (hpv:pv 0=.slice PA pn pc):∀ (d:Nat) (B:OA) (nb cb:Nat) (w:World) (G:NP),d<=700->PgT w G dp PA pn pc->SlP w G 20 pS (ah_ d) B nb cb->LsC b pn pv (cl d) w G (800 - d) B nb cb
 | 0,B,nb,cb,w,G,_,hpg,hl=>by
  have A1:=hl.sl.le;refine (list_step b pn _ 800 800 w G B nb cb A1 (fun k hk=>?_)).more (by have:nb*800<=20*800:=Nat.mul_le_mul_right _ A1;exact this);obtain ⟨kd,s,f,nn,op,E,B',C,m,c',m1,c1,m2,c2,g,o',h1,h2,h3,h4,h5,h6,h7,h8,_⟩:=hl.st hk;obtain ⟨rfl,rfl⟩:=h8 rfl;refine ⟨kd,s,f,nn,op,E,B',C,m,c',0,c1,0,c2,g,o',h1,h4,fun w' G' A4 N' o hg u hN ho=>?_⟩;have A0:=hpg.go u;have hE:=h2.go u (l_);refine (stmt_step b pn pv PA pn pc dp hpv o 0 A4 N' G' w' hg kd s f nn op E B' C m c' 0 c1 0 c2 o_ o_ h2.sl.le rfl h5 h6 h7 A0.sl A0.nm (fun k hk=>?_) (list_nil _ _ _ _ _ _ _ _) (list_nil _ _ _ _ _ _ _ _)).mono (fun e w2 hr=>⟨hr.1,hr.2.more o_⟩);exact ut_
 | d+1,B,nb,cb,w,G,hd,hpg,hl=>by
  have A1:=hl.sl.le;refine (list_step b pn _ (800+2*cl d) (800 - (d+1)) w G B nb cb A1 (fun k hk=>?_)).more (by have:nb*(800+2*cl d)<=20*(800+2*cl d):=Nat.mul_le_mul_right _ A1;exact this);obtain ⟨kd,s,f,nn,op,E,B',C,m,c',m1,c1,m2,c2,g,o',h1,h2,h3,h4,h5,h6,h7,_,h9⟩:=hl.st hk;obtain ⟨p1,p2⟩:=h9 d rfl;refine ⟨kd,s,f,nn,op,E,B',C,m,c',m1,c1,m2,c2,g,o',h1,h4,fun w' G' A4 N' o hg u hN ho=>?_⟩;have A0:=hpg.go u;have hE:=h2.go u (l_);refine stmt_step b pn pv PA pn pc dp hpv o (cl d) A4 N' G' w' hg kd s f nn op E B' C m c' m1 c1 m2 c2 o_ hN h2.sl.le rfl h5 h6 h7 A0.sl A0.nm (fun k hk=>?_) ((list_g b pn pv PA pc dp hpv d B' m1 c1 w' G' o_ A0 (p1.go u (l_))).low o_) ((list_g b pn pv PA pc dp hpv d C m2 c2 w' G' o_ A0 (p2.go u (l_))).low o_);exact ut_
def StrC (w:World) (X:NP) (g:Nat):Prop:=g<w/\¬X g/\∀ i,i<2->∃ s:ByteArray,w.cell? (f_ g i)=some (.string s)/\s.size<=100
theorem StrC.kp {w w':World} {X Y:NP} {g:Nat} (h:StrC w X g) (hk:Kp Y w w') (hg:¬Y g):StrC w' X g :=
 ⟨lt_ h.1 hk.size,h.2.1,fun i hi=>by obtain ⟨s,h1,h2⟩:=h.2.2 i hi;exact ⟨s,(hk.cell h.1 hg).trans h1,h2⟩⟩
theorem StrC.slT {w:World} {X:NP} {g:Nat} (h:StrC w X g):SlT w X 20 [.sat strP] (some (a_ g)) 2 2:=slt_strs h.1 h.2.1 d_ h.2.2
def kFnS (X:XE) (B:Nat) (hB:∀ k,X k->k<B) (S:ByteArray) (D q:Nat):SK X:=⟨fun w u=>∃ gp A n c,u=.agg #[.string S,.slice (some (a_ gp)) 2 2,.slice A n c]/\StrC w X gp/\n<=q/\(n=0->A=none)/\OwP w B 212 pS (ah_ D) X 20 A n c,fun w w' u hk _ ⟨gp,A,n,c,e,h1,hq,h0,h⟩=>⟨gp,A,n,c,e,h1.kp hk h1.2.1,hq,h0,h.kept hk hB⟩⟩
section
variable {Q:Exit->Act->World->Prop} {X:XE} {Inv:World->Prop} {o:Oper} {a:Act} {w:World} {d b lp:Nat} {x y z:Operand}
theorem rk_fnS {D B q:Nat} {S:ByteArray} {hB:∀ k,X k->k<B} (ho:o.op=.build 194 #[(0,.const (.string S)),(1,y),(2,x)]) (hy:(bs_ X 2).p w (a.eval y)) (hx:(kOt X B hB D q).p w (a.eval x)) (hI:Inv w):RnK prog Q X Inv (kFnS X B hB S D q) o a w:=by
 obtain ⟨A,n,c,hx,hn,h0,hO⟩:=hx;obtain ⟨g,hy,hg,A0,hc⟩:=hy;have e0:a.eval (.const (.string S))=.string S:=rfl;generalize hr:a.eval=r at hx hy e0;exact bq_ (v:=.agg #[.string S,.slice (some (a_ g)) 2 2,.slice A n c]) xp_ ⟨_,A,n,c,rfl,⟨hg,A0,hc⟩,hn,h0,hO⟩ hI
theorem RnK.withKp {κ:SK X} {w0:World} (h:RnK prog Q X Inv κ o a w) (hk:Kp X.x w0 w):RnK prog Q X (fun w=>Inv w/\Kp X.x w0 w) κ o a w:=fun K hK=>h K (fun v w' h1 h2 h3 h4=>hK v w' h1 h2 ⟨h3,hk.trans h1⟩ h4)
theorem IC.withKp {w0:World} (H:IC d b lp X Inv):IC d b lp X (fun w=>Inv w/\Kp X.x w0 w) :=
 ⟨fun w h=>H.ok w h.1,H.zx,fun w h=>H.lt w h.1,fun w w' h hm hk=>⟨H.up w w' h.1 hm hk,h.2.trans (hk.mono (fun k _ hk=>H.zx k hk))⟩,fun w w' h hk he=>H.ex w w' h.1 hk he⟩
end
theorem own_nostr {g base:Nat} {w:World} {X:NP} {D:Nat} {A:OA} {n c:Nat} {s0:ByteArray} (h:OwP w base 212 pS (ah_ D) X 20 A n c) (hn:0<n) (hb:w.cell? (a_ g)=some (.string s0)):(Value.slice A n c).ownBlock≠some g:=fun e=>by
 obtain ⟨xs,ho,hx⟩:=h;obtain ⟨vs,h1,h2,h3⟩:=hx 0 hn;obtain ⟨u,hu,hv⟩:=h1.2 0 .num (by cases D <;> rfl);obtain ⟨i,rfl⟩:=hv.int;have h4:=h2 0 _ hu;rw [Nat.zero_mul,Nat.zero_add] at h4;rcases ho.2 with ⟨h',_⟩ | ⟨b,cap,cur,hv2,hg,hr,hr2⟩
 ·injection h' with q1;subst q1;cases e
 injection hv2 with q1 _ q3;subst q1 q3;injection e with e;have e:b=g:=e;subst e;have h5:=ho.cells (g:=b) rfl 0 _ h4;rw [Addr.add_lit] at h5;rw [hb] at h5;cases h5
theorem ns_func:∀ (j:Nat) (t:CT),(cx_ 3)[j]?=some t->NS t:=by
 intro j t hj
 match j,hj with
 | 0,hj=>injection hj with hj;subst hj;exact .sat
 | 1,hj=>injection hj with hj;subst hj;exact ns_strs
 | 2,hj=>injection hj with hj;subst hj;exact ns_lstmt 3
theorem FnV.setf {X:NP} {g g' z:Nat} {S:ByteArray} {w w':World} (h:FnV X g z S w) (hc:FnC3 g' w w') (hbx:∀ cs,Bx w g cs->Bx w' g cs):FnV X g z S w':=by
 obtain ⟨cs,h1,h2,h3⟩:=h.bx;exact ⟨Nat.le_trans h.zl hc.sz,h.gz,cs,hbx cs h1,⟨h2.1,fun j t hj=>by obtain ⟨u,hu,hv⟩:=h2.2 j t hj;exact ⟨u,hu,hv.setf hc (ns_func j t hj)⟩⟩,h3⟩
theorem FnV.cells {X:NP} {g z:Nat} {S:ByteArray} {w:World} (h:FnV X g z S w):∃ (P B:OA) (np cp m c:Nat),Bx w g [.string S,.slice P np cp,.slice B m c]/\VTs w X 20 (cx_ 3) [.string S,.slice P np cp,.slice B m c]:=by
 obtain ⟨cs,h1,h2,h3⟩:=h.bx;have h2:=h2.less (Y:=X) (fun k _ hk=>.inl hk);obtain ⟨u1,A0,A2⟩:=h2.2 1 (.sl [.sat strP]) rfl;obtain ⟨u2,A1,A3⟩:=h2.2 2 (.lst pS (ah_ 3)) rfl;obtain ⟨P,np,cp,rfl,_⟩:=A2.slice;obtain ⟨B,m,c,rfl,_⟩:=A3.dh_;have hl:cs.length=3:=h2.1;obtain rfl:cs=[.string S,.slice P np cp,.slice B m c]:=by
  match cs,hl with
  | [x,y,z],_ =>
   injection h3 with h3;injection A0 with A0;injection A1 with A1;rw [h3,A0,A1]
 exact ⟨P,B,np,cp,m,c,h1,h2⟩
theorem pgt_three {w':World} {X:NP} {g:Nat} {c0 c1 c2:VL} (hb:Bx w' g (c0 ++ c1 ++ c2)) (hg:¬X g) (h0:VTs w' X 20 (cx_ 3) c0) (h1:VTs w' X 20 (cx_ 3) c1) (h2:VTs w' X 20 (cx_ 3) c2) (n1:c1[0]?=some (.string nameF)) (n2:c2[0]?=some (.string nameG)):PgT w' X 3 (some (a_ g)) 3 3:=by
 have l0:c0.length=3:=h0.1;have l1:c1.length=3:=h1.1;have l2:c2.length=3:=h2.1;refine ⟨⟨d_,l_,d_,x_,fun ad h=>?_⟩,fun s hs=>?_⟩
 ·injection h with h;subst h;refine ⟨g,0,rfl,hb.1,hg,fun k j=>((c0 ++ c1 ++ c2)[k*3+j]?).getD undef,fun k j t hk hj=>?_,fun k j t hk hj=>?_⟩;all_goals
   have A2:j<3:=(e_ hj).1
  ·have A0:k*3+j<(c0 ++ c1 ++ c2).length:=by simp only [List.length_append];omega
   have e:((c0 ++ c1 ++ c2)[k*3+j]?).getD undef=(c0 ++ c1 ++ c2)[k*3+j]:=by rw [ge_ A0,Option.getD_some]
   show w'.cell? ⟨g,0+(k*3+j),none⟩=some (((c0 ++ c1 ++ c2)[k*3+j]?).getD undef)
   rw [e,Nat.zero_add];exact hb.2.1 _ _ (ge_ A0)
  show VT w' X 20 t (((c0 ++ c1 ++ c2)[k*3+j]?).getD undef)
  have A1:k=0\/k=1\/k=2:=by omega
  rcases A1 with rfl | rfl | rfl
  ·obtain ⟨u,hu,hv⟩:=h0.2 j t hj;rw [List.getElem?_append_left yg_,List.getElem?_append_left o_,Nat.zero_mul,Nat.zero_add,hu];exact hv
  ·obtain ⟨u,hu,hv⟩:=h1.2 j t hj;rw [List.getElem?_append_left yg_,List.getElem?_append_right o_,l0,show 1*3+j - 3=j from o_,hu];exact hv
  obtain ⟨u,hu,hv⟩:=h2.2 j t hj;rw [List.getElem?_append_right yg_,List.length_append,l0,l1,show 2*3+j - (3+3)=j from o_,hu];exact hv
 rcases hs with rfl | rfl
 ·exact ⟨1,d_,g,0,rfl,hb.2.1 3 _ (by rw [List.getElem?_append_left yg_,List.getElem?_append_right o_,l0];exact n1)⟩
 exact ⟨2,d_,g,0,rfl,hb.2.1 6 _ (by rw [List.getElem?_append_right yg_,List.length_append,l0,l1];exact n2)⟩
theorem pg_end {w W w11:World} {d b r:Nat} {X X0 XQ:NP} {cm cf cg:VL} (hr:r=w) (hdw:d<r) (hbz:r<b) (hW:Below w w W) (hk:Kp (Zm d b) W w11) (hD:Dice w11 d) (hR:Bx w11 r [.slice none 0 0]) (h0:X0 r) (h1:∀ k,X k->X0 k) (hX:∀ k,X k->k<w) (hq:∀ k,X0 k->XQ k)
  (vm:VTs w11 X0 20 (cx_ 3) cm) (vf:VTs w11 X0 20 (cx_ 3) cf) (vg:VTs w11 XQ 20 (cx_ 3) cg) (n1:cf[0]?=some (.string nameF)) (n2:cg[0]?=some (.string nameG)) :
  ∀ V2,V2=(w11.setCell (a_ r) (.slice (some (a_ w11)) 3 3)).alloc (.cells (cm ++ cf ++ cg).toArray 194)->Bx V2 r [.slice (some (a_ w11)) 3 3]/\PgT V2 X 3 (some (a_ w11)) 3 3/\Rd d w V2:=by
 intro V2 A0;have A8:Kp (fun k=>k=r) w11 (w11.setCell (a_ r) (.slice (some (a_ w11)) 3 3)):=(Kp.refl (fun k=>k=r) w11).setCell (p:=(a_ r)) (.inl rfl) _;have A5:=hD.set (p:=(a_ r)) hdw (.slice (some (a_ w11)) 3 3);have A4:Bx (w11.setCell (a_ r) (.slice (some (a_ w11)) 3 3)) r [.slice (some (a_ w11)) 3 3]:=hR.set 0 _;obtain ⟨V1,A6⟩:=ex_ (w11.setCell (a_ r) (.slice (some (a_ w11)) 3 3));have Aa:(V1:Nat)=w11:=by rw [A6];simp
 rw [<-A6] at A8 A4 A5 A0;have A3:Below V1 V1 V2:=by rw [A0];exact av_ _ _ _
 have A9:Bx V2 w11 (cm ++ cf ++ cg):=by rw [A0,<-Aa];exact Bx.new V1 _ _
 have A7:Kp (fun k=>k=r) w11 V2:=A8.bb_ A3;have Ab:d<w11:=hD.lt;have A1:∀ (X':NP) (vs:VL),X' r->(∀ k,X k->X' k)->VTs w11 X' 20 (cx_ 3) vs->VTs V2 X 20 (cx_ 3) vs:=fun X' vs h1 h2 h=>(h.up (A7.mono (fun k _ hk=>by rw [hk];exact h1)) (l_)).less (fun k _ hk=>h2 k hk)
 have A2:Kp (fun k=>k=d) w V2:=(((Kp.of_below (X:=fun k=>k=d\/w<=k) hW).trans (hk.mono (fun k _ hk=>by rcases hk with h | h;exact .inl h;exact .inr o_))).trans (A7.mono (fun k _ hk=>.inr o_))).mono (fun k hk h=>by rcases h with h | h;exact h;omega);exact ⟨A4.kp (X:=fun _=>False) (Kp.of_below A3) (fun h=>h),pgt_three A9 (fun h=>by have:=hX _ h;have:=hW.size;have:=hk.size;omega) (A1 X0 cm h0 h1 vm) (A1 X0 cf h0 h1 vf) (A1 XQ cg (hq _ h0) (fun k hk=>hq _ (h1 k hk)) vg) n1 n2,⟨A5.below A3,A2⟩⟩
end Go.Proofs.YtfolidlmgfhkiaaGreat
