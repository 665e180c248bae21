/- Lemmas on functions of the program, under the conditions that each states. -/
import Derived.Test.YtfolidlmgfhkiaaGreatRows
import Derived.WalkKit
import Derived.WalkSpells
import Derived.WalkLawsBesides
import Derived.Deep.QuietTactic
import Derived.BigQuiet
import Derived.Deep.Draws
import Derived.Lib.Hide
import Derived.StillTailTactics
import Derived.Deep.AppendLies
import Derived.Deep.RegionLaw
import Derived.Laws.CopyOwn
import Derived.Lib.Overlaps
import Derived.Lib.AppendZeros
import Derived.Lib.SliceRun
import Derived.Deep.RegionLawGrows
import Derived.Deep.Cut
import Derived.Deep.RegionHeld
set_option linter.unusedVariables false
set_option linter.unusedSimpArgs false
set_option maxRecDepth 100000
set_option maxHeartbeats 4000000
namespace Go.Proofs.YtfolidlmgfhkiaaGreat
open Go.RowKit
def Hid (p:Prop):Prop:=p
theorem Hid.o {p:Prop} (h:Hid p):p:=h
theorem Hid.out {p:Prop} (h:Hid p):p:=h
abbrev OA:=Option Addr
abbrev VL:=List Value
abbrev NP:=Nat->Prop
theorem ex_ {α:Type} (x:α):∃ v,v=x:=⟨x,rfl⟩
theorem ge_ {α:Type} {l:List α} {i:Nat} (h:i<l.length):l[i]?=some l[i]:=List.getElem?_eq_getElem h
theorem gs_ {α:Type} {l:List α} {i j:Nat} {a:α}:(l.set i a)[j]?=if i=j then if i<l.length then some a else none else l[j]?:=List.getElem?_set
theorem lt_ {a b c:Nat} (h:a<b) (k:b<=c):a<c:=Nat.lt_of_lt_of_le h k
theorem me_{p:Prop}(h:p:=by (simp [intOf];omega)):p:=h
theorem za_{p:Prop}(h:p:=by (rfl)):p:=h
theorem zb_{p:Prop}(h:p:=by (go_num)):p:=h
theorem zc_{p:Prop}(h:p:=by (simp [Act.eval])):p:=h
theorem zd_{p:Prop}(h:p:=by (repeat (first | with_reducible exact A3.o | with_reducible refine Fy.drew ?_ | refine Fy.set (i:=2) ?_ A2.o rfl rfl rfl d_ (.num _) | refine Fy.set (i:=2) ?_ A2.o rfl rfl rfl d_ (.tru _)))):p:=h
theorem ze_{p:Prop}(h:p:=by (rw [gs_,if_neg d_])):p:=h
theorem zf_{p:Prop}(h:p:=by (repeat (first | (with_reducible exact (HW.o.trans (H1.o.mono HW.o.size))) | (with_reducible refine Below.drew ?_) | (with_reducible refine below_drewN ?_ _) | (with_reducible refine Below.setCell ?_ ?_ _;rotate_left;(first | omega | (simp <;> omega))) | (with_reducible refine Below.alloc ?_ ?_ _;rotate_left;(first | omega | (simp <;> omega)))))):p:=h
theorem zg_{p:Prop}(h:p:=by (rw [ar_ _ _ _ _ _ rfl];rfl)):p:=h
theorem zh_{p:Prop}(h:p:=by (repeat (first | with_reducible exact Fx.start F7.o _ | with_reducible refine Fx.drew ?_ | refine Fx.set (i:=2) ?_ rfl rfl rfl (.num _) | refine Fx.set (i:=2) ?_ rfl rfl rfl (.tru _)))):p:=h
theorem zi_{p:Prop}(h:p:=by (first | rfl | trivial | assumption)):p:=h
theorem zj_{p:Prop}(h:p:=by (simp)):p:=h
theorem zk_{p:Prop}(h:p:=by (have:=hx.a;omega)):p:=h
theorem zl_{p:Prop}(h:p:=by (simp [Act.eval,Act.put,co_])):p:=h
theorem zm_{p:Prop}(h:p:=by (intro e;injection e with e1 e2;omega)):p:=h
theorem zn_{p:Prop}(h:p:=by (first | decide | omega)):p:=h
theorem zo_{p:Prop}(h:p:=by (rw [gs_,if_neg o_])):p:=h
theorem zp_{p:Prop}(h:p:=by (simp;omega)):p:=h
theorem zq_{p:Prop}(h:p:=by (rw [hr];rcases hT with rfl | rfl <;> simp [execOp,ho,hm,hn,go_sem])):p:=h
theorem zr_{p:Prop}(h:p:=by (rw [A6];exact ((Au.o.trans (.of_below A0.o)).setCell (p:=⟨g,k*2,none⟩) (.inr AB) _).setCell (p:=⟨g,k*2+1,none⟩) (.inr AB) _)):p:=h
theorem zs_{p:Prop}(h:p:=by (rw [A6];exact ((Kp.refl (fun q=>q=g) U3).setCell (p:=⟨g,k*2,none⟩) (.inl rfl) _).setCell (p:=⟨g,k*2+1,none⟩) (.inl rfl) _)):p:=h
theorem zt_{p:Prop}(h:p:=by (simp [Act.eval,Act.put,cutA])):p:=h
theorem zu_{p:Prop}(h:p:=by (rw [Ah.o];exact ((HT.o.up AG.o (Nat.le_refl K)).set (j:=39) rfl (AD.o.slT (fun k hk=>by have:=Ac.o k hk;omega) Aa).vt))):p:=h
theorem zv_{p:Prop}(h:p:=by (show (w:Nat)<=w;omega)):p:=h
theorem zw_{p:Prop}(h:p:=by (rw [C0.o];rfl)):p:=h
theorem zx_{p:Prop}(h:p:=by (rw [hU,al_ _ _ _ _ y_,al_ _ _ _ _ y_,ar_ _ _ _ _ _ y_];rfl)):p:=h
theorem zy_{p:Prop}(h:p:=by (rw [gs_,if_pos rfl,if_pos o_])):p:=h
theorem zz_{p:Prop}(h:p:=by (show (w:Nat)+2≠wr;omega)):p:=h
theorem z0_{p:Prop}(h:p:=by (simpa using hy)):p:=h
theorem z1_{p:Prop}(h:p:=by (show (w:Nat)≠w+1;omega)):p:=h
theorem z2_{p:Prop}(h:p:=by (simp [Act.eval,Act.put,cg_])):p:=h
theorem z3_{p:Prop}(h:p:=by (show (w:Nat)<=w+1;omega)):p:=h
theorem z4_{p:Prop}(h:p:=by (rcases h2 with h2 | h2;(have:=Ac.o q h2;show q<V;omega);(injection h2 with h2;show q<V;omega))):p:=h
theorem z5_{p:Prop}(h:p:=by (have:=(e_ hx).1;rw [HL.o] at this;exact this)):p:=h
theorem z6_{p:Prop}(h:p:=by (rw [A6];exact (Ae.o.set hk (j:=0) rfl (.num _) _ rfl).set hk (j:=1) rfl AE.o.vt _ rfl)):p:=h
theorem z7_{p:Prop}(h:p:=by (show _<=g;omega)):p:=h
theorem z8_{p:Prop}(h:p:=by (rw [HL.o];exact hlt)):p:=h
theorem z9_{p:Prop}(h:p:=by (rw [hr];simp [execOp,ho,hx,hy,hf,go_sem])):p:=h
theorem ya_{p:Prop}(h:p:=by (rw [HE.o];rfl)):p:=h
theorem yb_{p:Prop}(h:p:=by (rw [A3,upd_same,Aa.o];exact KT.set _ _ _ ⟨d_,d_⟩)):p:=h
theorem yc_{p:Prop}(h:p:=by (simp [intOf];omega)):p:=h
theorem yd_{p:Prop}(h:p:=by (assumption)):p:=h
theorem ye_{p:Prop}(h:p:=by (show (w:Nat)≠w+2;omega)):p:=h
theorem yf_{p:Prop}(h:p:=by (simp [genOw])):p:=h
theorem yg_{p:Prop}(h:p:=by (simp only [List.length_append];omega)):p:=h
theorem yh_{p:Prop}(h:p:=by (rw [List.size_toArray];exact fun j hj=>⟨by rw [D7.o _ AI.o j _ (ge_ (by rw [D9.o.1,<-BC.o.1];simpa using hj))];rfl,(belf AI.o DU).trans (Ej.o _)⟩)):p:=h
theorem yi_{p:Prop}(h:p:=by (rw [A0];omega)):p:=h
theorem yj_{p:Prop}(h:p:=by (rw [upd_same,gs_,if_pos rfl,if_pos (e_ HC.o).1])):p:=h
theorem yk_{p:Prop}(h:p:=by (simpa using hz)):p:=h
theorem yl_{p:Prop}(h:p:=by (rw [upd_same,Aa.o];exact KT.refl _)):p:=h
theorem ym_{p:Prop}(h:p:=by (rw [List.size_toArray];exact A8.o.ai_ rfl (Nat.le_of_eq A0.o.len))):p:=h
theorem yn_{p:Prop}(h:p:=by (rw [A0,ar_ _ _ _ _ _ t_];rfl)):p:=h
theorem yo_{p:Prop}(h:p:=by (rw [List.size_toArray];exact (A7.o.box (i:=0) rfl).there (by rw [A7.o.len (i:=0) rfl];simp only [List.size_toArray];rw [A4.o.1];decide))):p:=h
theorem yp_{p:Prop}(h:p:=by (simpa using h)):p:=h
theorem yq_{p:Prop}(h:p:=by (rw [Array.size_setIfInBounds];exact hz)):p:=h
theorem yr_{p:Prop}(h:p:=by (show j<38;omega)):p:=h
theorem ys_{p:Prop}(h:p:=by (rw [hr];simp [execOp,ho,hx,hf,go_sem])):p:=h
theorem yt_{p:Prop}(h:p:=by (rw [hr];simp [execOp,ho,hx,e0,go_sem])):p:=h
theorem yu_{p:Prop}(h:p:=by (simp [results,results93,go_sem,e1,e2])):p:=h
theorem yv_{p:Prop}(h:p:=by (simp [results,results17,go_sem,e1,e2])):p:=h
theorem yw_{p:Prop}(h:p:=by (simp [Act.eval,Act.put];rfl)):p:=h
theorem yx_{p:Prop}(h:p:=by (intro e;injection e with e1 e2;exact A0.2 q hq e1.symm)):p:=h
theorem yy_{p:Prop}(h:p:=by (rw [idxI,hi])):p:=h
theorem yz_{p:Prop}(h:p:=by (rw [A1.o,A2.o])):p:=h
theorem y0_{p:Prop}(h:p:=by (show (w:Nat)<=w+1+1;omega)):p:=h
theorem y1_{p:Prop}(h:p:=by (rw [A4];exact O9.o.kept (dt_ S9 (a_ (w+2)) _) (fun k hk=>by injection hk with hk;subst hk;exact A2.o))):p:=h
theorem y2_{p:Prop}(h:p:=by (rw [HV.o];rfl)):p:=h
theorem y3_{p:Prop}(h:p:=by (rw [c0];rfl)):p:=h
theorem y4_{p:Prop}(h:p:=by (have h:=Aq.o.box (i:=2) rfl;rw [AL.o] at h;exact h)):p:=h
theorem y5_{p:Prop}(h:p:=by (have h:=AO.o.box (i:=2) rfl;rw [AA.o] at h;exact h)):p:=h
theorem y6_{p:Prop}(h:p:=by (rw [hU];exact O4.o.up ((Kp.refl _ w4).setCell (.inl (.inr ⟨l_,by show (w:Nat)<_;omega⟩)) _) o_)):p:=h
theorem y7_{p:Prop}(h:p:=by (rw [Aj.o.1];decide)):p:=h
theorem y8_{p:Prop}(h:p:=by (simp only [idx,hq,h];simp;omega)):p:=h
theorem y9_{p:Prop}(h:p:=by (simp [Act.eval,Act.put,eff4_eq])):p:=h
theorem xa_{p:Prop}(h:p:=by (rw [hU];exact (show Kp (fun k=>k=w) W w4 from Kp.of_below B4.o).setCell (p:=(a_ w)) (.inl rfl) _)):p:=h
theorem xb_{p:Prop}(h:p:=by (show (w:Nat)<w+3;omega)):p:=h
theorem xc_{p:Prop}(h:p:=by (rw [List.size_toArray,A0.o.len];exact isz_145)):p:=h
theorem xd_{p:Prop}(h:p:=by (have:=HX.o.b (show (3:Int)≠13 by decide) (show (3:Int)≠10 by decide);simp at this;omega)):p:=h
theorem xe_{p:Prop}(h:p:=by (have:=HX.o.b (show (4:Int)≠13 by decide) (show (4:Int)≠10 by decide);simp at this;omega)):p:=h
theorem xf_{p:Prop}(h:p:=by (have:=HX.o.b (show (5:Int)≠13 by decide) (show (5:Int)≠10 by decide);simp at this;omega)):p:=h
theorem xg_{p:Prop}(h:p:=by (have:=HX.o.b (show (6:Int)≠13 by decide) (show (6:Int)≠10 by decide);simp at this;omega)):p:=h
theorem xh_{p:Prop}(h:p:=by (have:=HW.o.size;omega)):p:=h
theorem xi_{p:Prop}(h:p:=by (rw [hr];simp [execOp,ho,hx,hy,hz,hf,go_sem])):p:=h
theorem xj_{p:Prop}(h:p:=by (have:=sh_n hk22;rw [hst] at this;exact this)):p:=h
theorem xk_{p:Prop}(h:p:=by (have:=sh_v hk22;rw [hst] at this;exact this)):p:=h
theorem xl_{p:Prop}(h:p:=by (intro e;injection e with e1 e2;exact Aa e1)):p:=h
theorem xm_{p:Prop}(h:p:=by (show (w:Nat)<_;omega)):p:=h
theorem xn_{p:Prop}(h:p:=by (rw [Ah.o];exact KT.set vs 39 _ ⟨d_,d_⟩)):p:=h
theorem xo_{p:Prop}(h:p:=by (rw [HL.o];omega)):p:=h
theorem xp_{p:Prop}(h:p:=by (rw [hr];simp [execOp,ho,hx,hy,e0,go_sem])):p:=h
theorem xq_{p:Prop}(h:p:=by (rw [e])):p:=h
theorem xr_{p:Prop}(h:p:=by (rw [hr];simp [execOp,ho,hx,go_sem];rfl)):p:=h
theorem xs_{p:Prop}(h:p:=by (rw [A0];rfl)):p:=h
theorem xt_{p:Prop}(h:p:=by (show (w:Nat)+2≠w;omega)):p:=h
theorem xu_{p:Prop}(h:p:=by (rw [upd_same];exact Ae.o)):p:=h
theorem xv_{p:Prop}(h:p:=by (intro i x h;omega)):p:=h
theorem xw_{p:Prop}(h:p:=by (show (w:Nat)<=w+2;omega)):p:=h
theorem xx_{p:Prop}(h:p:=by (rw [A0,al_ _ _ _ _ y_,al_ _ _ _ _ t_,ar_ _ _ _ _ _ t_];rfl)):p:=h
theorem xy_{p:Prop}(h:p:=by (rw [E0.o];rfl)):p:=h
theorem xz_{p:Prop}(h:p:=by (rw [A7.o.len (i:=0) rfl];simp only [List.size_toArray];rw [A4.o.1];decide)):p:=h
theorem x0_{p:Prop}(h:p:=by (rw [<-hk];exact hat i x hx 0 _ rfl)):p:=h
theorem x1_{p:Prop}(h:p:=by (rw [D7.o _ AI.o j _ (ge_ (by rw [D9.o.1,<-BC.o.1];simpa using hj))];rfl)):p:=h
theorem x2_{p:Prop}(h:p:=by (simpa using HL.o)):p:=h
theorem x3_{p:Prop}(h:p:=by (rw [hr];simp [execOp,ho,hb,go_sem])):p:=h
theorem x4_{p:Prop}(h:p:=by (have:=A0.o;show ¬(W:Nat)<=_;omega)):p:=h
theorem x5_{p:Prop}(h:p:=by (rw [Ar.1];exact au_)):p:=h
theorem x6_{p:Prop}(h:p:=by (injection he with he;subst he;rfl)):p:=h
theorem x7_{p:Prop}(h:p:=by (rw [List.size_toArray];exact HT.o)):p:=h
theorem x8_{p:Prop}(h:p:=by (rw [List.size_toArray];exact HI.o)):p:=h
theorem x9_{p:Prop}(h:p:=by (have:=A0.o.lt;have:=A0.o.bp;omega)):p:=h
theorem wa_{p:Prop}(h:p:=by (rw [List.size_toArray];exact IT.o)):p:=h
theorem wb_{p:Prop}(h:p:=by (show _<(wz:Nat);omega)):p:=h
theorem wc_{p:Prop}(h:p:=by (rw [cO _ o_];exact c0)):p:=h
theorem wd_{p:Prop}(h:p:=by (rw [cO _ o_];exact c1)):p:=h
theorem we_{p:Prop}(h:p:=by (rw [cO _ o_];exact c2)):p:=h
theorem wf_{p:Prop}(h:p:=by (simpa [World.setCell] using h.lt)):p:=h
theorem wg_{p:Prop}(h:p:=by (rw [hr];rcases hT with rfl | rfl <;> simp [execOp,ho,hx,hy,go_sem])):p:=h
theorem wh_{p:Prop}(h:p:=by (rw [A1.o];omega)):p:=h
theorem wi_{p:Prop}(h:p:=by (simpa using h2)):p:=h
theorem wj_{p:Prop}(h:p:=by (rw [A3];decide)):p:=h
theorem wk_{p:Prop}(h:p:=by (have:=HX.o.c (show (4:Int)≠13 by decide);simp at this;omega)):p:=h
theorem wl_{p:Prop}(h:p:=by (generalize a.eval=r at e0 e1;simp [execOp,ho,e0,e1,go_sem])):p:=h
theorem wm_{p:Prop}(h:p:=by (rw [ho.cellAt _ A0];exact hu)):p:=h
theorem wn_{p:Prop}(h:p:=by (injection hp with hp;injection hq with hq;rw [<-hp,<-hq])):p:=h
theorem wo_{p:Prop}(h:p:=by (obtain ⟨xs,ho,_⟩:=hO.o;exact (am_ ho hg).1)):p:=h
theorem wp_{p:Prop}(h:p:=by (rw [A0,al_ _ _ _ _ t_,ar_ _ _ _ _ _ rfl];rfl)):p:=h
theorem wq_{p:Prop}(h:p:=by (rw [hU];exact BX.o.set 0 _)):p:=h
theorem wr_{p:Prop}(h:p:=by (show (w:Nat)+2≠w+1;omega)):p:=h
theorem ws_{p:Prop}(h:p:=by (show (w:Nat)+1+1<w+3;omega)):p:=h
theorem wt_{p:Prop}(h:p:=by (rw [c0];exact ht.go U (l_))):p:=h
theorem wu_{p:Prop}(h:p:=by (rw [A5,al_ _ _ _ _ t_,ar_ _ _ _ _ _ t_];rfl)):p:=h
theorem wv_{p:Prop}(h:p:=by (rw [hL];exact hi)):p:=h
theorem ww_{p:Prop}(h:p:=by (trivial)):p:=h
theorem wx_{p:Prop}(h:p:=by (rw [hr];rcases ho with ho | ho <;> simp [execOp,ho])):p:=h
theorem wy_{p:Prop}(h:p:=by (rw [upd_same];exact K7.o)):p:=h
theorem wz_{p:Prop}(h:p:=by (have h:=A7.o.box (i:=2) rfl;rw [AL.o] at h;exact h)):p:=h
theorem w0_{p:Prop}(h:p:=by (simp [idx,hq,h])):p:=h
theorem w1_{p:Prop}(h:p:=by (rw [List.getElem?_append_left (e_ hu).1];exact hu)):p:=h
theorem w2_{p:Prop}(h:p:=by (show _<=f;omega)):p:=h
theorem w3_{p:Prop}(h:p:=by (intro h;cases h)):p:=h
theorem w4_{p:Prop}(h:p:=by (show _<=(w:Nat)+1;omega)):p:=h
theorem w5_{p:Prop}(h:p:=by (rw [Ay.o _ o_,C0.o];rfl)):p:=h
theorem w6_{p:Prop}(h:p:=by (omega)):p:=h
theorem w7_{p:Prop}(h:p:=by (have:=(Array.getElem?_eq_some_iff.1 A1).1;omega)):p:=h
theorem w8_{p:Prop}(h:p:=by (rw [Ad.1];exact au_)):p:=h
theorem w9_{p:Prop}(h:p:=by (rw [A1.1];exact au_)):p:=h
theorem va_{p:Prop}(h:p:=by (go_wp2_with fail;refine (bv_ b F pv A0 N0 o G0 W1 H1.o o_ _ _ _ _ _).mono ?_;rintro e W2 ⟨rfl,G2,H2,V2,_,_⟩;have U2:=q_ (U1.o.trans V2.o);clear x0 x1 x2 x3 x4 x5 x6 x7;obtain ⟨x0,x1,x2,x3,x4,x5,x6,x7⟩:=KC.o W2 G2 U2.o;go_wp2_with fail;refine end0 rfl rfl ?_;exact ⟨rfl,(RG.seq (k1:=800+2*cb) (HU.o.trans U2.o) Q0.o o_ o_ (RG.zero H2.o (Up.refl _ _))).more o_⟩)):p:=h
theorem vb_{p:Prop}(h:p:=by (go_upto_region 5 with fail;go_quiet (fail);obtain ⟨V,hV⟩:=ex_ (((W.alloc (.cells #[i_ k,i_ x.a,i_ x.b,i_ x.c,i_ x.n] 202)).alloc (.cells #[.bool sa,.bool sb,.bool sc,i_ sn] 268)).drewN nq);have HV:=q_ (Below.refl V V);have HQ:=q_ (fun w'=>KV.o V w' nq hV);clear x0 x1 x2 x3 x4 s0 s1 s2 s3 d0;obtain ⟨⟨c0,c1,c2⟩,⟨x0,x1,x2,x3,x4⟩,⟨s0,s1,s2,s3⟩,hbw2,hsl2⟩:=KV.o V V nq hV (b_);rw [<-hV];have hsl:=q_ hsl2;have hbw:=q_ hbw2;clear hV hbw2 hsl2 KV;exact cfL)):p:=h
theorem vc_{p:Prop}(h:p:=by (have BR:=q_ (F4.o.box (i:=1) rfl);have LR:=q_ (F4.o.len (i:=1) rfl);have HZ:=h_ (VTs S Y2 (N+500) comT (co_ none 0 0)) (cw_ (cp_ _ _ _ _));have A8:=h_ ((co_ none 0 0).length<=comT.length) (Nat.le_refl 10);go_wp2_with (with_reducible refine ab_ rfl 40 (.tmp 6) (.tmp 35) rfl (co_ none 0 0) w_ zl_ (BR.o.ai_ LR.o A8.o) (dw_ _ _ _) HZ.o.one ?_);obtain ⟨⟨f9,_⟩,hr⟩:=ret_com F4.o (i:=1) rfl HZ.o 7;refine cc_ results40 za_ underlying40 rfl (f9.info (i:=1) rfl du_) (f9.box (i:=1) rfl).whole rfl ?_;exact hr)):p:=h
theorem vd_{p:Prop}(h:p:=by (refine retC results142 za_ underlying65 rfl Ab (cs:=ls) (Aj.o.all ls (by rw [A3];rfl)).whole rfl ?_;have AJ:Below w w U4:=(AZ.o.trans (A0.o.mono o_)).trans (Af.o.below (B:=w) o_ (fun q hq h=>o_));exact ⟨⟨ls,rfl,(Ag.o.up (ag_ (w+2) ls 0 (Kp.refl _ U4) (.inl (.inr ⟨o_,o_⟩))) (Nat.le_succ K)).less (fun k _ h=>.inl h),q_ xn_⟩,(ag_ (w+2) ls 0 (show Kp (fun _=>False) w U4 from .of_below AJ) (.inr o_)).below (l_) (fun _ _ h=>h)⟩)):p:=h
theorem ve_{p:Prop}(h:p:=by (obtain ⟨F',_⟩:=FE.o.sets (i:=0) rfl (TE.o.up (Kp.refl _ _) (Nat.le_succ L));refine cc_ results137 za_ underlying65 rfl (F'.info (i:=0) rfl au_) (F'.box (i:=0) rfl).whole rfl ?_;exact F'.ratk (i:=0) rfl (.tru _) yl_)):p:=h
theorem vf_{p:Prop}(h:p:=by (intro a w2 hI hsz A0 hout A4;go_wp2;exact A1.o a w2 hI A0 (hout 2 d_))):p:=h
theorem vg_{p:Prop}(h:p:=by (have HQ:=q_ hq;clear hq;go_wp2_with fail;refine (HF.o x (List.mem_of_getElem? HX.o) wr hb).mono ?_;rintro e w' ⟨rfl,A1⟩;rw [HQ.o];have A4:Below w w w':=hb.trans (A1.mono hb.size);have HE:=q_ (idx_at (q:=q) HX.o HQ.o A2.o);go_wp2;go_ret;exact ⟨ya_,A4⟩)):p:=h
theorem vh_{p:Prop}(h:p:=by (have d0:=A9.o.2.1 0 _ rfl;have d1:=A3.o.2.1 0 _ rfl;have d2:=A3.o.2.2;clear Al;go_wp2;refine retC results47 za_ underlying35 rfl k_ (cs:=[_]) (A3.o.set 0 _).whole rfl ?_;have hb:Below w w (wr.setCell (a_ (w+1)) (.slice D u d)):=((HW.o.trans (Af.o.mono (by have:=Ah.o;omega))).trans (A5.o.below (B:=w) (by have:=A7.o;have:=Aq.o;omega) (fun k hk h=>by have:=A7.o;omega))).setCell z3_ _;exact ⟨⟨_,_,_,rfl,q_ ((hC.o.up ((Kp.refl _ wr).setCell (p:=(a_ (w+1))) (.inl (.inr (.inl ⟨z3_,by show (w:Nat)+1<w+2;omega⟩))) _) (show K+2*L*k<=K+2*L*N by have:=Ab.o k hk;omega)).kept (Kp.refl _ _) (fun k _ h h2=>h (.inl h2)) (l_))⟩,hb⟩)):p:=h
theorem vi_{p:Prop}(h:p:=by (go_wp2_with (with_reducible refine ab_ rfl 145 (.tmp 8) (.tmp 27) rfl eff4 w_ y9_ (BE.o.ai_ LR.o d_) isz_eff4 HO.o.one ?_);obtain ⟨⟨f2,_⟩,hr⟩:=ret_eff4 F1.o (i:=0) rfl l p;refine retC results73 za_ underlying145 rfl (f2.info (i:=0) rfl isz_145) (f2.box (i:=0) rfl).whole rfl ?_;exact hr)):p:=h
theorem vj_{p:Prop}(h:p:=by (obtain ⟨F',_⟩:=HN.o.sets (i:=0) rfl TN.o;refine cc_ results137 za_ underlying65 rfl (F'.info (i:=0) rfl au_) (F'.box (i:=0) rfl).whole rfl ?_;exact F'.ratk (i:=0) rfl (.tru _) xu_)):p:=h
theorem vk_{p:Prop}(h:p:=by (go_wp2_with (go_at_call 112;refine (bv_ b F pv qs N o G W H.o o_ _ _ _ _ _).mono ?_;rintro e w1 hp;obtain rfl:=hp.1;have R1:=q_ (RG.put hp);clear hp);refine end0 rfl rfl ?_;exact ⟨rfl,(RG.seq (k1:=0) HU.o (fun _ h=>h) (l_) (l_) R1.o).more o_⟩)):p:=h
theorem vl_{p:Prop}(h:p:=by (refine ⟨?_,hd,lt_ h.lt hk.size,(hc _ _ (l_)).trans h.c0,⟨l,(hc _ _ (l_)).trans h1⟩,(hc _ _ (l_)).trans h.c2,⟨f,(hc _ _ (l_)).trans h3⟩,fun j=>(hk.frozen h.lt o_).trans (h.fz j)⟩;obtain ⟨A0,S,sn,sc,a,g0,g1,g2,g3,g4,g5⟩:=h.dice;refine ⟨lt_ A0 hk.size,S,sn,sc,a,(hc _ _ o_).trans g0,(hc _ _ o_).trans g1,(hk.frozen A0 o_).trans g2,g3,g4,fun i hi=>?_⟩;obtain ⟨sb,so,x,e,h6,h7,h8,h9⟩:=g5 i hi;exact ⟨sb,so,x,e,h6,h7,h8,(hc _ _ o_).trans h9⟩)):p:=h
theorem vm_{p:Prop}(h:p:=by (rw [h];have hv:l.any q=true:=List.any_eq_true.2 ⟨x,List.mem_of_getElem? hx,hq⟩;have HV:=q_ hv;clear hx hq hv;go_wp2_with fail;go_ret;exact ⟨y2_,hb⟩)):p:=h
theorem vn_{p:Prop}(h:p:=by (go_wp2_with fail;go_quiet (fail);obtain ⟨bk,Ao,A4⟩:=H4.o.fr.tru (i:=0) rfl (j:=81) rfl rfl;have fb:=H4.o.fr.fz (i:=0) rfl;go_wp2;refine ret0 za_ rfl ?_;obtain ⟨Y6,C6,h6,u6,q6,j6⟩:=(H4.o.call (below_drewN (b_) nq)).set81 (bk:=bk) A4 true (fun _=>rfl);exact ⟨rfl,(((P4.o.below (below_drewN (b_) nq)).trans ⟨u6,q6,j6⟩ (fun j hj=>by show j≠81;omega)).ms (h6.raise o_))⟩)):p:=h
theorem vo_{p:Prop}(h:p:=by (have h0:=hb 0 y o_ rfl;have ih:=idx_at (q:=q) (l:=l) (k:=k) yp_ hq (fun i z hi hz=>hb (i+1) z o_ yk_);simp only [idx,h0,ih];simp;omega)):p:=h
theorem vp_{p:Prop}(h:p:=by (have h:=HS.o j u hu;exact (World.cell?_alloc_lt w _ _ (World.block_lt_of_cell? w _ h)).trans h)):p:=h
theorem vq_{p:Prop}(h:p:=by (go_wp2_with (with_reducible refine ab_ rfl 40 (.tmp 6) (.tmp 22) rfl (co_ none 0 0) w_ zl_ (BR.o.ai_ LR.o A7.o) (dw_ _ _ _) HZ.o.one ?_);obtain ⟨⟨f9,_⟩,hr⟩:=ret_com F1.o (i:=0) rfl HZ.o 7;refine cc_ results44 za_ underlying40 rfl (f9.info (i:=0) rfl du_) (f9.box (i:=0) rfl).whole rfl ?_;exact hr)):p:=h
theorem vr_{p:Prop}(h:p:=by (clear hbad;go_wp2_with (with_reducible refine ab_ rfl 65 (.tmp 10) (.tmp 31) rfl cg_ w_ z2_ (BR.o.ai_ LR.o d_) db_ HZ.o.one ?_);obtain ⟨⟨f2,_⟩,hr⟩:=A1.o;refine cc_ results41 za_ underlying65 rfl (f2.info (i:=0) rfl au_) (f2.box (i:=0) rfl).whole rfl ?_;exact hr)):p:=h
theorem vs_{p:Prop}(h:p:=by (intro a w2 hI hsz A1 hout A9;go_wp2;exact A0.o a w2 hI A1 (hout 4 d_))):p:=h
theorem vt_{p:Prop}(h:p:=by (rintro e W1 ⟨rfl,R1⟩;have R1:=q_ R1;go_wp2_with fail;refine ret0 rfl rfl ?_;exact ⟨rfl,(RG.seq (k1:=0) HU.o (fun _ h=>h) (l_) (l_) R1.o).more o_⟩)):p:=h
theorem vu_{p:Prop}(h:p:=by (go_wp2;go_ret;exact ⟨⟨_,rfl,q_ (fun h=>reg_of (H.o.trans h))⟩,(bel (b_))⟩)):p:=h
theorem vv_{p:Prop}(h:p:=by (have HE:=q_ (idx_no (q:=q) (l:=l) (fun i x hx=>A2.o i x z5_ hx));go_wp2;go_ret;exact ⟨ya_,hb⟩)):p:=h
theorem vw_{p:Prop}(h:p:=by (obtain ⟨F',_⟩:=A7.o.sets (i:=1) rfl (TP.o.up (Kp.refl _ _) (Nat.le_add_right L 2));refine cc_ results141 za_ underlying65 rfl (F'.info (i:=1) rfl au_) (F'.box (i:=1) rfl).whole rfl ?_;exact F'.ratk (i:=1) rfl (.tru _) (by rw [upd_same,E2.o,Ac.o];exact KT.refl _))):p:=h
theorem vx_{p:Prop}(h:p:=by (refine wpAnyH_done k_ ?_ _;go_wp2;refine end0 za_ rfl ?_;exact ⟨rfl,P5.o.ms (H5.o.raise o_)⟩)):p:=h
theorem vy_{p:Prop}(h:p:=by (obtain ⟨f2,u2⟩:=F.sets (i:=i) hp hv;exact ⟨⟨f2,trivial⟩,⟨_,ev,rfl,(f2.whole hp).less (fun k _ hk=>f2.sub k hk)⟩,f2.below⟩)):p:=h
theorem vz_{p:Prop}(h:p:=by (have h0:=h 0 x rfl;have ih:=idx_no (q:=q) (l:=l) (fun i y hy=>h (i+1) y z0_);simp [idx,h0,ih])):p:=h
theorem v0_{p:Prop}(h:p:=by (injection e' with e1 e2 e3;subst e1 e2 e3;exact h')):p:=h
theorem v1_{p:Prop}(h:p:=by (have:(k+1)*e.length<=m*e.length:=Nat.mul_le_mul_right _ hk;rw [Nat.add_mul] at this;omega)):p:=h
theorem v2_{p:Prop}(h:p:=by (go_upto_region 1 with fail;rw [<-hW];clear hW;go_wp2_with fail;refine (same_any x.id x.field id field q W g0 g1).mono ?_;rintro e w1 ⟨rfl,hb⟩;have HB:=q_ (A1.o.trans (hb.mono A1.o.size));clear hb;go_wp2_with fail;go_ret;exact ⟨rfl,HB.o⟩)):p:=h
theorem v3_{p:Prop}(h:p:=by (go_wp2;go_ret;exact ⟨none,0,rfl,World.ownsRow_nil _ _ _ _,b_⟩)):p:=h
theorem v4_{p:Prop}(h:p:=by (go_wp2;go_ret;exact ⟨⟨_,rfl⟩,((P0.o.below (Below.drew (b_))).trans p5 (fun j hj=>.inl o_)).ms (h5.raise o_)⟩)):p:=h
theorem v5_{p:Prop}(h:p:=by (refine cc_ results44 za_ underlying40 rfl (f9.info (i:=0) rfl du_) (f9.box (i:=0) rfl).whole rfl ?_;exact hr)):p:=h
theorem v6_{p:Prop}(h:p:=by (obtain ⟨F',_⟩:=F7.o.sets (i:=1) rfl (T7.o.up (Kp.refl _ _) o_);refine cc_ results88 za_ underlying65 rfl (F'.info (i:=1) rfl au_) (F'.box (i:=1) rfl).whole rfl ?_;exact F'.ratk (i:=1) rfl (.tru _) wy_)):p:=h
theorem v7_{p:Prop}(h:p:=by (rintro e w' ⟨⟨kd,s,f,n,op,A,m,c,B,m1,c1,C,m2,c2,rfl,h⟩,hb⟩;exact ⟨_,rfl,hb.kp.mono (fun q _ hq=>hC.zx q hq),hC.ex w w' hI hb.kp,hC.up w w' hI hb.ok hb.kp,_,_,_,_,_,_,_,_,_,_,_,_,_,_,rfl,h.o⟩)):p:=h
theorem v8_{p:Prop}(h:p:=by (exact ⟨⟨A9,n9,c9,rfl,q_ ((A6.o.up ((Kp.refl _ _).setCell (p:=(a_ (w+1))) (.inl (.inr rfl)) _) (l_)).kept (Kp.refl _ _) (fun q _ h h2=>h (.inl h2)) (l_))⟩,A3.o.set A4 (Nat.le_succ _) _⟩)):p:=h
theorem v9_{p:Prop}(h:p:=by (have HV:=q_ hv;clear hno hv;go_wp2_with fail;go_ret;exact ⟨y2_,hb⟩)):p:=h
theorem ua_{p:Prop}(h:p:=by (go_wp2;refine end0 za_ rfl ?_;exact ⟨rfl,P2.o.ms (H2.o.raise o_)⟩)):p:=h
theorem ub_{p:Prop}(h:p:=by (intro a w2 hI hsz A0 hout A3;go_wp2;exact A4.o a w2 hI A0 (hout 4 d_))):p:=h
theorem uc_{p:Prop}(h:p:=by (rw [ad_ _ _ o_,ad_ _ _ o_];exact ((T5.o.go (.of_below B2.o) (l_)).go u6 (l_)).go u7 o_)):p:=h
theorem ud_{p:Prop}(h:p:=by (subst hik;rw [HX.o] at hy;injection hy with hy;subst hy;exact HQ.o)):p:=h
theorem ue_{p:Prop}(h:p:=by (rw [ad_ _ _ A1,ad_ _ _ A1,upd_same,gs_,if_neg o_,A2.o])):p:=h
theorem uf_{p:Prop}(h:p:=by (exact ⟨⟨_,_,_,rfl,q_ ((hC.o.up ((Kp.refl _ wr).setCell (.inl (.inr (.inr rfl))) _) (Nat.le_refl K)).kept (Kp.refl _ _) (fun k _ h h2=>h (.inl h2)) (Nat.le_refl K))⟩,hb⟩)):p:=h
theorem ug_{p:Prop}(h:p:=by (have hl:=run_loadVar_mid (P:=P) w b o t cs d hc hu hd hi;unfold results;rw [h];simp only [Array.getD_eq_getD_getElem?] at ha;simp [ha,asAddr,Sem.run_bind,hl,Result.andThen])):p:=h
theorem uh_{p:Prop}(h:p:=by (rintro e w' ⟨⟨kd,n,s,op,A,m,c,rfl,h⟩,hb⟩;exact ⟨_,rfl,hb.kp.mono (fun q _ hq=>hC.zx q hq),hC.ex w w' hI hb.kp,hC.up w w' hI hb.ok hb.kp,_,_,_,_,_,_,_,rfl,h.o⟩)):p:=h
theorem ui_{p:Prop}(h:p:=by (obtain ⟨i,hi⟩:=List.getElem?_of_mem hx;rw [hno i x hi];simp)):p:=h
theorem uj_{p:Prop}(h:p:=by (go_wp2;go_ret;exact ⟨⟨_,rfl⟩,P2.o.ms (H2.o.raise o_)⟩)):p:=h
theorem uk_{p:Prop}(h:p:=by (go_wp2_with fail;go_ret;exact ⟨⟨_,_,_,rfl,q_ (hO.o.slT A1.o A3)⟩,K0.o.2.2.2.2⟩)):p:=h
theorem ul_{p:Prop}(h:p:=by (go_wp2;go_ret;exact ⟨⟨_,_,_,rfl,q_ (O7.o.slT (fun q A0=>by have:=A2.o q A0;have:=b6.size;omega) o_)⟩,(HW.o.trans (A1.mono HW.o.size)).trans (b7.mono xh_)⟩)):p:=h
theorem um_{p:Prop}(h:p:=by (have A1:=q_ r1;have A2:=q_ r2;clear r1 r2;go_wp2;refine bodyPost_ret (v:=.tuple #[.agg #[.bool false,i_ 0],.bool false]) yv_ rfl ?_;exact ⟨yz_,(bel A3)⟩)):p:=h
theorem un_{p:Prop}(h:p:=by (have A1:=q_ r1;have A2:=q_ r2;clear r1 r2;go_wp2;refine bodyPost_ret (v:=.tuple #[.agg #[.bool false,i_ 0],.bool false]) yu_ rfl ?_;exact ⟨yz_,(bel A3)⟩)):p:=h
theorem uo_{p:Prop}(h:p:=by (rw [List.getElem?_append_left (by rw [A0];exact hi),List.getElem?_take,if_pos hi])):p:=h
theorem up_{p:Prop}(h:p:=by (subst this;exact ⟨fun _ v h=>h,fun _ e he=>⟨e,he,rfl,fun i s s' hs A0 X' K' v hv=>by rw [hs] at A0;injection A0 with A0;subst A0;exact hv⟩⟩)):p:=h
theorem uq_{p:Prop}(h:p:=by (refine bodyPost_ret (results_tmp2 za_ _ _ _) rfl ?_;obtain ⟨Y2,C2,h2,p2⟩:=H2.o;exact ⟨⟨_,_,rfl⟩,(P0.o.trans p2 (fun j hj=>hj)).ms h2⟩)):p:=h
theorem ur_{p:Prop}(h:p:=by (obtain ⟨u,hu,hv⟩:=hx k j t hk hj;exact ⟨u,hu,hv.kept ((Kp.refl _ w).grown hg (fun k hk=>.inl (.inl (hr k hk).1))) (fun _ _ h=>h) (l_)⟩)):p:=h
theorem us_{p:Prop}(h:p:=by (go_ret;obtain ⟨Y5,C5,h5,p5⟩:=H5.o;exact ⟨⟨_,rfl⟩,((P0.o.below (Below.drew (b_))).trans p5 (fun j hj=>.inl hj)).ms (h5.raise o_)⟩)):p:=h
theorem ut_{p:Prop}(h:p:=by (obtain ⟨A2,n',s',A3,A',m',c',g',o2,e1,e2,e3,e4⟩:=hE.ex hk;exact ⟨A2,n',s',A3,A',m',c',g',o2,e1,e2,expr_g b pn _ o dE _ w' G' e3 e4⟩)):p:=h
theorem uu_{p:Prop}(h:p:=by (refine end0 za_ rfl ?_;obtain ⟨Y3,C3,h3,p3⟩:=HM.o;exact ⟨rfl,(P2.o.trans p3 (fun j hj=>by show j≠73;omega)).ms (h3.raise o_)⟩)):p:=h
theorem uv_{p:Prop}(h:p:=by (exfalso;have A0:=(Array.getElem?_eq_some_iff.1 ho).1;rw [Array.getD_eq_getD_getElem?,Array.getElem?_replicate,if_pos A0] at hl;cases hl)):p:=h
theorem uw_{p:Prop}(h:p:=by (go_enter func76,ntmps76;go_wp2;go_ret;exact ⟨⟨_,rfl⟩,(bel (b_))⟩)):p:=h
theorem ux_{p:Prop}(h:p:=by (go_wp2;go_ret;exact ⟨⟨_,rfl⟩,A0.o.trans (H3.o.mono A0.o.size)⟩)):p:=h
theorem uy_{p:Prop}(h:p:=by (intro a w2 hI hsz A1 hout Ad;go_wp2;exact A0.o a w2 hI A1 (hout 2 d_))):p:=h
theorem uz_{p:Prop}(h:p:=by (intro a w2 hI hsz A1 hout Ae;go_wp2;exact A0.o a w2 hI A1 (hout 4 d_))):p:=h
theorem u0_{p:Prop}(h:p:=by (subst h0;exact ⟨none,0,rfl,A0,hb⟩)):p:=h
theorem u1_{p:Prop}(h:p:=by (exact ⟨⟨_,_,_,rfl,q_ (O7.o.up ((Kp.refl X w7).setCell (p:=(a_ (w+1))) (.inl Ad.o) _) (l_))⟩,Ae.setCell w4_ _⟩)):p:=h
theorem u2_{p:Prop}(h:p:=by (have hc:vs[j]?=some (vs[j]'o_):=ge_ o_;rw [List.getElem?_map,List.getElem?_range hj,hc,Option.map_some,h j _ hc];rfl)):p:=h
theorem u3_{p:Prop}(h:p:=by (refine cc_ results71 za_ underlying140 rfl (f2.info (i:=0) rfl isz_140) (f2.box (i:=0) rfl).whole rfl ?_;exact hr)):p:=h
theorem u4_{p:Prop}(h:p:=by (go_ret;obtain ⟨Y5,C5,h5,p5⟩:=H5.o;exact ⟨⟨_,rfl⟩,(P3.o.trans p5 (fun j hj=>.inl hj)).ms (h5.raise o_)⟩)):p:=h
theorem u5_{p:Prop}(h:p:=by (refine end0 za_ rfl ?_;exact ⟨rfl,P8.o.ms (H8.o.raise o_)⟩)):p:=h
theorem u6_{p:Prop}(h:p:=by (refine cc_ results46 za_ underlying65 rfl (f9.info (i:=1) rfl au_) (f9.box (i:=1) rfl).whole rfl ?_;exact hr)):p:=h
theorem u7_{p:Prop}(h:p:=by (refine cc_ results41 za_ underlying65 rfl (f9.info (i:=1) rfl au_) (f9.box (i:=1) rfl).whole rfl ?_;exact hr)):p:=h
theorem u8_{p:Prop}(h:p:=by (refine cc_ results39 za_ underlying40 rfl (f9.info (i:=1) rfl du_) (f9.box (i:=1) rfl).whole rfl ?_;exact hr)):p:=h
theorem u9_{p:Prop}(h:p:=by (refine cc_ results46 za_ underlying65 rfl (f2.info (i:=0) rfl au_) (f2.box (i:=0) rfl).whole rfl ?_;exact hr)):p:=h
theorem ta_{p:Prop}(h:p:=by (refine cc_ results46 za_ underlying65 rfl (f9.info (i:=0) rfl au_) (f9.box (i:=0) rfl).whole rfl ?_;exact hr)):p:=h
theorem tb_{p:Prop}(h:p:=by (go_wp2;go_ret;exact ⟨⟨n,HF.o.1,HF.o.2,⟨_,rfl,q_ (.inl rfl)⟩⟩,HW.o.trans (hb.mono HW.o.size)⟩)):p:=h
theorem tc_{p:Prop}(h:p:=by (go_wp2_with fail;go_ret;exact ⟨by rw [A5.o];rfl,A4.o⟩)):p:=h
theorem td_{p:Prop}(h:p:=by (go_enter func128,ntmps128;go_wp2;go_ret;exact ⟨⟨_,rfl,q_ (by rw [HK.o,HX.o])⟩,(bel (b_))⟩)):p:=h
theorem te_{p:Prop}(h:p:=by (obtain ⟨i,h1,h2,h3⟩:=ih h;exact ⟨i,h1,h2,o_⟩)):p:=h
theorem tf_{p:Prop}(h:p:=by (rw [getD_set_ne true (Ne.symm hji)] at hj;exact (ks j).st w w' _ hk he (h.ok j oj t hj A0 ht))):p:=h
theorem tg_{p:Prop}(h:p:=by (exact ⟨_,_,_,hr,A2.1,A2.2,fun g hg=>.inr (by simp [Value.ownBlock] at hg;exact hg.symm)⟩)):p:=h
theorem th_{p:Prop}(h:p:=by (have:(k+1)*e.length<=n*e.length:=Nat.mul_le_mul_right _ hk;rw [Nat.add_mul] at this;omega)):p:=h
theorem ti_{p:Prop}(h:p:=by (rw [ad_ _ _ o_,ad_ _ _ o_];exact K5.o)):p:=h
theorem tj_{p:Prop}(h:p:=by (rw [ad_ _ _ o_,ad_ _ _ o_];exact Ap.o)):p:=h
theorem tk_{p:Prop}(h:p:=by (go_wp2_with fail;go_meet;exact ⟨Y7,C7,q_ (S7.o.raise o_),q_ (fun h=>absurd h Am.o)⟩)):p:=h
theorem tl_{p:Prop}(h:p:=by (exact ⟨_,_,rfl,f,u,fun k hk=>ad_ _ _ hk,upd_same _ _ _,setCells_size _ _ _ _⟩)):p:=h
theorem tm_{p:Prop}(h:p:=by (rw [if_pos hw];exact Lib.wp_append_run w s x t t ho _ _ hs hx _ _ hr (h A' c' w' h1 h2))):p:=h
theorem tn_{p:Prop}(h:p:=by (exact ⟨rfl,G3,qs,N+1,A1,fun _ h=>h,o_,o_,U3⟩)):p:=h
theorem to_{p:Prop}(h:p:=by (go_wp2;go_ret;exact ⟨⟨_,rfl⟩,(bel (b_))⟩)):p:=h
theorem tp_{p:Prop}(h:p:=by (refine cc_ results40 za_ underlying40 rfl IS.o A0.o.1.whole rfl ?_;exact A0.o.2.2.2)):p:=h
theorem tq_{p:Prop}(h:p:=by (go_enter func172,ntmps172;go_wp2;go_ret;exact ⟨by rw [HK.o,HX.o];rfl,(bel (b_))⟩)):p:=h
theorem tr_{p:Prop}(h:p:=by (rw [ge_ hi,ge_ wv_];simp only [Option.map_some];rw [(hr i _ _ (ge_ hi) (ge_ wv_)).1])):p:=h
theorem below_drewN {B:Nat} {a w:World} (h:Below B a w) (m:Nat):Below B a (w.drewN m):=⟨h.os,h.tape,h.output,h.size,h.block⟩
theorem aj_ {B:Nat} {w w':World} {row:Option Nat} (hg:w.grownBy w' row) (hB:B≤w.heap.size) (hr:∀ k,row=some k→B≤k):Below B w w' :=
 (Below.refl B w).grown hg hB hr
structure Sl {α:Type} (w:World) (B:Nat) (sz:Nat) (cells:α→VL) (A:OA) (n:Nat) (l:List α):Prop where
 len:l.length=n
 at_:0<n→∃ ab ao,A=some ⟨ab,ao,none⟩∧ab<B∧∀ i x,l[i]?=some x→∀ j u,(cells x)[j]?=some u→w.cell? ⟨ab,ao+(i*sz+j),none⟩=some u
section
variable {α:Type} {w w':World} {B B' sz:Nat} {cells:α→VL} {A:OA} {n:Nat} {l:List α}
theorem Sl.nil:Sl w B sz cells A 0 []:=⟨rfl,fun h=>absurd h (by omega)⟩
theorem Sl.below (h:Sl w B sz cells A n l) (hb:Below B w w'):Sl w' B sz cells A n l :=
 ⟨h.len,fun hn=>by
  obtain ⟨ab,ao,e,A0,hc⟩:=h.at_ hn
  exact ⟨ab,ao,e,A0,fun i x hx j u hu=>(hb.cell (p:=⟨ab,_,none⟩) A0).trans (hc i x hx j u hu)⟩⟩
theorem Sl.mono (h:Sl w B sz cells A n l) (hB:B≤B'):Sl w B' sz cells A n l :=
 ⟨h.len,fun hn=>by
  obtain ⟨ab,ao,e,A0,hc⟩:=h.at_ hn
  exact ⟨ab,ao,e,by omega,hc⟩⟩
theorem Sl.set (h:Sl w B sz cells A n l) {p:Addr} (hp:∀ ad,A=some ad→ad.block≠p.block) (u:Value):Sl (w.setCell p u) B sz cells A n l :=
 ⟨h.len,fun hn=>by
  obtain ⟨ab,ao,e,A0,hc⟩:=h.at_ hn
  refine ⟨ab,ao,e,A0,fun i x hx j u hu=>(World.cell?_setCell_other w p _ _ (fun e2=>hp _ e (by rw [e2]))).trans (hc i x hx j u hu)⟩⟩
theorem Sl.up (h:Sl w w.heap.size sz cells A n l) (hb:Below w.heap.size w w'):Sl w' w'.heap.size sz cells A n l:=(h.below hb).mono hb.size
theorem flat_get (hsz:∀ x,(cells x).length=sz):∀ (l:List α) (i:Nat) (x:α),l[i]?=some x→∀ j u,(cells x)[j]?=some u→(l.flatMap cells)[i*sz+j]?=some u
 | [],i,x,h,_,_,_=>by simp at h
 | y :: l,0,x,h,j,u,hu=>by
  simp at h;subst h
  have hj:j<(cells y).length:=(List.getElem?_eq_some_iff.1 hu).1
  rw [Nat.zero_mul,Nat.zero_add,List.flatMap_cons,List.getElem?_append_left hj];exact hu
 | y :: l,i+1,x,h,j,u,hu=>by
  have ih:=flat_get hsz l i x (by simpa using h) j u hu
  have e:(i+1)*sz+j=(cells y).length+(i*sz+j):=by rw [hsz,Nat.add_mul];omega
  rw [e,List.flatMap_cons,List.getElem?_append_right (by omega)]
  simpa using ih
theorem cj_ (hsz:∀ x,(cells x).length=sz):∀ (l:List α),(l.flatMap cells).length=l.length*sz
 | []=>by simp
 | y :: l=>by rw [List.flatMap_cons,List.length_append,cj_ hsz l,hsz,List.length_cons,Nat.add_mul];omega
theorem flat_take (hsz:∀ x,(cells x).length=sz):∀ (l:List α) (k:Nat),(l.flatMap cells).take (k*sz)=(l.take k).flatMap cells
 | [],k=>by simp
 | y :: l,0=>by simp
 | y :: l,k+1=>by
  have e:(k+1)*sz=(cells y).length+k*sz:=by rw [hsz,Nat.add_mul];omega
  rw [List.flatMap_cons,e,List.take_length_add_append,flat_take hsz l k,List.take_succ_cons,List.flatMap_cons]
theorem flat_drop (hsz:∀ x,(cells x).length=sz):∀ (l:List α) (k:Nat),(l.flatMap cells).drop (k*sz)=(l.drop k).flatMap cells
 | [],k=>by simp
 | y :: l,0=>by simp
 | y :: l,k+1=>by
  have e:(k+1)*sz=(cells y).length+k*sz:=by rw [hsz,Nat.add_mul];omega
  rw [List.flatMap_cons,e,List.drop_length_add_append,flat_drop hsz l k,List.drop_succ_cons]
theorem Sl.da_ {base:Nat} {e:TypeId} {c:Nat} (hsz:∀ x,(cells x).length=sz) (hl:l.length=n) (h:w.ownsRow base e sz (.slice A n c) n (l.flatMap cells)):Sl w w.heap.size sz cells A n l:=by
 refine ⟨hl,fun hn=>?_⟩
 obtain ⟨g,cap,hv,_,A0⟩:=h.form hn
 have hA:A=some ⟨g,0,none⟩:=by injection hv
 subst hA
 refine ⟨g,0,rfl,A0,fun i x hx j u hu=>?_⟩
 have:=h.cells (g:=g) rfl (i*sz+j) u (flat_get hsz l i x hx j u hu)
 unfold Addr.add at this
 split at this
 ·rename_i h0;rw [h0];exact this
 ·simpa using this
end
/- copy: elements of whatever size, into a row that is known whole. -/
theorem run_copy_N {P:Program} (w:World) (dT sT ty elem:TypeId) (sz:Nat) (g o dLen dCap:Nat) (a:Addr) (sLen sCap:Nat) (cur:Array Value) (t:TypeId) (cs:VL)
  (hu:P.underlying dT=some (.slice elem)) (hs:(P.info? elem).map (·.size)=some sz)
  (hg:w.heap[g]?=some (.cells cur t (0,0))) (hn:cs.length=Nat.min sLen dLen*sz)
  (hsrc:∀ j v,cs[j]?=some v→w.cell? (a.add j)=some v) (hfit:o+cs.length≤cur.size) (h1:∀ v ∈ cs,v.oneCell'=true) :
  (Builtin.copy_ #[dT,sT] ty #[.slice (some ⟨g,o,none⟩) dLen dCap,.slice (some a) sLen sCap]).run P w =
   .ok (goInt (Nat.min sLen dLen)) (w.setRow g (cur.toList.take o ++ cs ++ cur.toList.drop (o+cs.length)).toArray):=by
 have hl:=run_loadCells_list (P:=P) w a cs hsrc
 have A0:=run_storeCells_at P g o t cs 0 cur w hg (by simpa using hfit) h1
 cases hq:P.info? elem with
 | none=>simp [hq] at hs
 | some i =>
  have hi:i.size=sz:=by simpa [hq] using hs
  simp [Builtin.copy_,run_underlying hu,Builtin.lenOf,Builtin.firstCells,sizeOf,typeInfo,hq,hi,<-hn,hl,A0]
theorem run_copy_N' {P:Program} (w:World) (dT sT ty elem:TypeId) (sz:Nat) (g o dLen dCap:Nat) (a:Addr) (sLen sCap:Nat) (cur:VL) (t:TypeId) (cs:VL)
  (hu:P.underlying dT=some (.slice elem)) (hs:(P.info? elem).map (·.size)=some sz)
  (hg:w.heap[g]?=some (.cells cur.toArray t (0,0))) (hn:cs.length=Nat.min sLen dLen*sz)
  (hsrc:∀ j v,cs[j]?=some v→w.cell? (a.add j)=some v) (hfit:o+cs.length≤cur.length) (h1:∀ v ∈ cs,v.oneCell'=true) :
  ∃ w',(Builtin.copy_ #[dT,sT] ty #[.slice (some ⟨g,o,none⟩) dLen dCap,.slice (some a) sLen sCap]).run P w=.ok (goInt (Nat.min sLen dLen)) w' ∧
   Hid (w'.heap[g]?=some (.cells (splice cur o cs).toArray t (0,0)))∧w.grownBy w' (some g):=by
 refine ⟨_,run_copy_N w dT sT ty elem sz g o dLen dCap a sLen sCap cur.toArray t cs hu hs hg hn hsrc (by simpa using hfit) h1,?_,⟨rfl,rfl,rfl,by simp [World.setRow],fun k hk hne=>setRow_other w g k _ (fun e=>hne (by rw [e]))⟩⟩
 show _=_
 simpa [splice] using setRow_heap w g _ _ t _ hg
theorem wpList_copy_N {P:Program} {w:World} {ops:Array Oper} {rest:List Oper} {o:Oper} {a:Act} {Q:Exit→Act→World→Prop} (hgd:o.guard=none) (d s:Operand) (dT sT:TypeId)
  (ho:o.op=.call { callee:=.builtin .copy,args:=#[d,s],argTypes:=#[dT,sT] }) (elem:TypeId) (sz:Nat) (hu:P.underlying dT=some (.slice elem)) (hsz:(P.info? elem).map (·.size)=some sz)
  (g off dLen dCap:Nat) (ad:Addr) (sLen sCap:Nat) (hd:a.eval d=.slice (some ⟨g,off,none⟩) dLen dCap) (hs:a.eval s=.slice (some ad) sLen sCap)
  (cur:VL) (t:TypeId) (hg:w.heap[g]?=some (.cells cur.toArray t (0,0))) (cs:VL) (hn:cs.length=Nat.min sLen dLen*sz)
  (hsrc:∀ j v,cs[j]?=some v→w.cell? (ad.add j)=some v) (hfit:off+cs.length≤cur.length) (h1:∀ v ∈ cs,v.oneCell'=true)
  (h:∀ w',Hid (w'.heap[g]?=some (.cells (splice cur off cs).toArray t (0,0)))→w.grownBy w' (some g)→wpList P ops Q rest (a.put o.dst (goInt (Nat.min sLen dLen))) w') :
  wpList P ops Q (o :: rest) a w:=by
 refine wpList_plain hgd fun K hK=>?_
 obtain ⟨w',A0,h2,h3⟩:=run_copy_N' (P:=P) w dT sT o.type elem sz g off dLen dCap ad sLen sCap cur t cs hu hsz hg hn hsrc hfit h1
 unfold Oper.wp
 simp [execOp,ho,resolve,invoke,builtin,hd,hs,A0,Result.andThen]
 exact hK _ _ (h w' h2 h3)
theorem step_copy_N {P:Program} {ops:Array Oper} {o:Oper} {a:Act} {w:World} {K:Act→World→Prop} {Q:Exit→Act→World→Prop} {E:Prop} (hgd:o.guard=none) (d s:Operand) (dT sT:TypeId)
  (ho:o.op=.call { callee:=.builtin .copy,args:=#[d,s],argTypes:=#[dT,sT] }) (elem:TypeId) (sz:Nat) (hu:P.underlying dT=some (.slice elem)) (hsz:(P.info? elem).map (·.size)=some sz)
  (g off dLen dCap:Nat) (ad:Addr) (sLen sCap:Nat) (hd:a.eval d=.slice (some ⟨g,off,none⟩) dLen dCap) (hs:a.eval s=.slice (some ad) sLen sCap)
  (cur:VL) (t:TypeId) (hg:w.heap[g]?=some (.cells cur.toArray t (0,0))) (cs:VL) (hn:cs.length=Nat.min sLen dLen*sz)
  (hsrc:∀ j v,cs[j]?=some v→w.cell? (ad.add j)=some v) (hfit:off+cs.length≤cur.length) (h1:∀ v ∈ cs,v.oneCell'=true)
  (h:∀ w',Hid (w'.heap[g]?=some (.cells (splice cur off cs).toArray t (0,0)))→w.grownBy w' (some g)→K (a.put o.dst (goInt (Nat.min sLen dLen))) w') :
  if Region.wanted o (yielded ops a.tmps)=true then Oper.wp P o a w K Q else E:=by
 have hw:Region.wanted o (yielded ops a.tmps)=true:=by simp [Region.wanted,hgd]
 rw [if_pos hw]
 obtain ⟨w',A0,h2,h3⟩:=run_copy_N' (P:=P) w dT sT o.type elem sz g off dLen dCap ad sLen sCap cur t cs hu hsz hg hn hsrc hfit h1
 unfold Oper.wp
 simp [execOp,ho,resolve,invoke,builtin,hd,hs,A0,Result.andThen]
 exact h w' h2 h3
theorem splice_shift {α:Type} (cur xs cs:List α) (a s n:Nat) (hx:cur.take n=xs) (hcs:cs.length=s) (han:a≤n) (hl:n+s≤cur.length) :
  (splice (splice cur (a+s) (xs.drop a)) a cs).take (n+s)=xs.take a ++ cs ++ xs.drop a:=by
 have A0:xs.length=n:=by rw [<-hx,List.length_take];omega
 have h1:(splice cur (a+s) (xs.drop a)).take a=xs.take a:=by
  unfold splice
  rw [List.take_append_of_le_length (by rw [List.length_take];omega),List.take_take,Nat.min_eq_left (by omega),<-hx,List.take_take,Nat.min_eq_left han]
 have h2:(splice cur (a+s) (xs.drop a)).drop (a+s)=xs.drop a ++ cur.drop (a+s+(xs.drop a).length):=by
  unfold splice
  rw [List.drop_append,List.drop_eq_nil_of_le (by rw [List.length_take];omega),List.nil_append,List.length_take,Nat.min_eq_left (by omega),Nat.sub_self,List.drop_zero]
 have h3:splice (splice cur (a+s) (xs.drop a)) a cs=(xs.take a ++ cs ++ xs.drop a) ++ cur.drop (a+s+(xs.drop a).length):=by
  conv=>lhs;unfold splice
  rw [hcs,show splice cur (a+s) (xs.drop a)=splice cur (a+s) (xs.drop a) from rfl] at *
  rw [show (List.take (a+s) cur ++ (xs.drop a ++ cur.drop (a+s+(xs.drop a).length)))=splice cur (a+s) (xs.drop a) from rfl,h1,h2]
  simp
 rw [h3,List.take_append_of_le_length (by simp only [List.length_append,List.length_take,List.length_drop,hcs,A0];omega),List.take_of_length_le (by simp only [List.length_append,List.length_take,List.length_drop,hcs,A0];omega)]
theorem splice_grow {α:Type} (row xs cs:List α) (a s n:Nat) (hr:row.take a=xs.take a) (hcs:cs.length=s) (hxl:xs.length=n) (han:a≤n) (_hl:n+s≤row.length) :
  (splice (splice row a cs) (a+s) (xs.drop a)).take (n+s)=xs.take a ++ cs ++ xs.drop a:=by
 have h1:(splice row a cs).take (a+s)=xs.take a ++ cs:=by
  unfold splice
  rw [hr,<-List.append_assoc,List.take_append_of_le_length (by simp only [List.length_append,List.length_take,hcs,hxl];omega),List.take_of_length_le (by simp only [List.length_append,List.length_take,hcs,hxl];omega)]
 have h2:splice (splice row a cs) (a+s) (xs.drop a)=(splice row a cs).take (a+s) ++ (xs.drop a ++ (splice row a cs).drop (a+s+(xs.drop a).length)):=rfl
 rw [h2,h1,<-List.append_assoc,List.take_append_of_le_length (by simp only [List.length_append,List.length_take,List.length_drop,hcs,hxl];omega),List.take_of_length_le (by simp only [List.length_append,List.length_take,List.length_drop,hcs,hxl];omega)]
theorem ar_ (w:World) (c:Array Value) (t:TypeId) (b i:Nat) (h:b=w.heap.size):(w.alloc (.cells c t)).cell? ⟨b,i,none⟩=c[i]?:=by subst h;simp
theorem al_ (w:World) (o:Obj) (b i:Nat) (h:b<w.heap.size):(w.alloc o).cell? ⟨b,i,none⟩=w.cell? ⟨b,i,none⟩:=World.cell?_alloc_lt w o _ h
theorem bu_ (w:World) (c:Array Value) (t:TypeId) (b i:Nat) (h:b=w.heap.size):(w.alloc (.cells c t)).frozen? ⟨b,i,none⟩=false:=by subst h;simp
theorem et_ (w:World) (o:Obj) (b i:Nat) (h:b<w.heap.size):(w.alloc o).frozen? ⟨b,i,none⟩=w.frozen? ⟨b,i,none⟩:=World.frozen?_alloc_old w o _ (Nat.ne_of_lt h)
theorem cf_ {w w':World} (h:Below w.heap.size w w') (row:Option Nat):w.grownBy w' row:=⟨h.os,h.tape,h.output,h.size,fun k hk _=>h.block k hk⟩
theorem own_below {w w':World} {base:Nat} {e:TypeId} {size:Nat} {v:Value} {n:Nat} {xs:VL} (h:w.ownsRow base e size v n xs) (hb:Below w.heap.size w w'):w'.ownsRow base e size v n xs:=h.kept (cf_ hb none) (by cases v.ownBlock <;> simp)
theorem own_form {w:World} {base:Nat} {e:TypeId} {size:Nat} {v:Value} {n:Nat} {xs:VL} (h:w.ownsRow base e size v n xs) (hn:0<n):∃ A' c',v=.slice A' n c':=by
 obtain ⟨g,cap,rfl,_⟩:=h.form hn
 exact ⟨_,_,rfl⟩
theorem cl_ {w:World} {base:Nat} {e:TypeId} {size:Nat} {v:Value} {n:Nat} {xs:VL} (h:w.ownsRow base e size v n xs) {a:Addr} (u:Value) (hne:v.ownBlock≠some a.block):(w.setCell a u).ownsRow base e size v n xs :=
 h.kept (row:=some a.block) ⟨rfl,rfl,rfl,by simp,fun k hk A0=>Below.heap_setCell w a u k (fun e=>A0 (by rw [e]))⟩ (.inr hne)
theorem bh_ (w:World) (a b:Addr) (u:Value) (h:a≠b):(w.setCell a u).cell? b=w.cell? b:=World.cell?_setCell_other w a b u h
/- append, whatever the source: nil, empty or not. -/
theorem ct_ {P:Program} (w:World) (t ty e:TypeId) (i:TypeInfo) (ht:P.underlying t=some (.slice e)) (hi:P.info? e=some i)
  (ao:OA) (n cap:Nat) (hnc:n≤cap) (xo:OA) (c:Nat) :
  (Builtin.append_ #[t,t] ty #[.slice ao n cap,.slice xo 0 c]).run P w=.ok (.slice ao n cap) w:=by
 have hl:∀ (x:Addr),(loadCells x 0).run P w=.ok #[] w:=fun x=>by simpa using run_loadCells_list (P:=P) w x [] (by simp)
 cases ao <;> cases xo <;> simp [Builtin.append_,run_underlying ht,sizeOf,typeInfo,hi,Builtin.lenOf,Builtin.firstCells,hnc,storeCells,hl]
theorem cz_ {P:Program} (w:World) (base:Nat) (t ty e:TypeId) (i:TypeInfo) (z:Value) (size bytes:Nat) (ht:P.underlying t=some (.slice e)) (hi:P.info? e=some i) (hz:i.zero=some z)
  (hsize:i.size=size) (hby:i.bytes=bytes) (hzs:z.cells.size=size) (hsz:0<size)
  (v:Value) (n:Nat) (xs:VL) (hown:w.ownsRow base e size v n xs)
  (xo:OA) (m c:Nat) (news:VL) (hxo:xo=none→m=0) (hl:news.length=m*size) (hnews:∀ ad,xo=some ad→∀ (j:Nat) (u:Value),news[j]?=some u→w.cell? (ad.add j)=some u) (h1:∀ u ∈ news,u.oneCell'=true)
  (h63:n+m≤maxLen) (hbytes:(n+m)*bytes≤140737488355328) (hbase:base≤w.heap.size) :
  ∃ A' c' w',(Builtin.append_ #[t,t] ty #[v,.slice xo m c]).run P w=.ok (.slice A' (n+m) c') w'∧w'.ownsRow base e size (.slice A' (n+m) c') (n+m) (xs ++ news)∧w.grownBy w' v.ownBlock ∧
   (∀ g,(Value.slice A' (n+m) c').ownBlock=some g→v.ownBlock=some g\/g=w.heap.size):=by
 rcases Nat.eq_zero_or_pos m with rfl | hm
 ·obtain rfl:news=[]:=List.eq_nil_of_length_eq_zero (by simpa using hl)
  rw [List.append_nil,Nat.add_zero]
  rcases hown.2 with ⟨rfl,rfl⟩ | ⟨g,cap,cur,rfl,hbg,hg,hnc,hcm,hcs,htake⟩
  ·exact ⟨none,0,w,ct_ w t ty e i ht hi none 0 0 (Nat.le_refl _) xo c,hown,World.grownBy.refl _ _,fun g hg=>.inl hg⟩
  ·exact ⟨_,_,w,ct_ w t ty e i ht hi _ n cap hnc xo c,hown,World.grownBy.refl _ _,fun g hg=>.inl hg⟩
 ·cases xo with
  | none=>exact absurd (hxo rfl) (by omega)
  | some ad =>
   obtain ⟨g,cap,w',hr,ho,hg,A0,_⟩:=run_append_lies (P:=P) (w:=w) t ty base e i z size bytes ht hi hz hsize hby hzs hsz v n xs hown ad m c news hl (hnews ad rfl) h1 hm h63 hbytes hbase _ rfl
   exact ⟨_,_,w',hr,ho,hg,fun k hk=>by injection hk with hk;subst hk;exact A0⟩
theorem bt_ {P:Program} {w:World} {ops:Array Oper} {rest:List Oper} {o:Oper} {a:Act} {Q:Exit→Act→World→Prop} (hgd:o.guard=none) (s x:Operand) (t:TypeId)
  (ho:o.op=.call { callee:=.builtin .append,args:=#[s,x],argTypes:=#[t,t] })
  (base:Nat) (e:TypeId) (i:TypeInfo) (z:Value) (size bytes:Nat) (ht:P.underlying t=some (.slice e)) (hi:P.info? e=some i) (hz:i.zero=some z)
  (hsize:i.size=size) (hby:i.bytes=bytes) (hzs:z.cells.size=size) (hsz:0<size)
  (v:Value) (n:Nat) (xs:VL) (hs:a.eval s=v) (hown:w.ownsRow base e size v n xs)
  (xo:OA) (m c:Nat) (news:VL) (hx:a.eval x=.slice xo m c) (hxo:xo=none→m=0) (hl:news.length=m*size) (hnews:∀ ad,xo=some ad→∀ (j:Nat) (u:Value),news[j]?=some u→w.cell? (ad.add j)=some u) (h1:∀ u ∈ news,u.oneCell'=true)
  (h63:n+m≤maxLen) (hbytes:(n+m)*bytes≤140737488355328) (hbase:base≤w.heap.size)
  (h:∀ A' c' w',w'.ownsRow base e size (.slice A' (n+m) c') (n+m) (xs ++ news)→w.grownBy w' v.ownBlock→(∀ g,(Value.slice A' (n+m) c').ownBlock=some g→v.ownBlock=some g\/g=w.heap.size)→wpList P ops Q rest (a.put o.dst (.slice A' (n+m) c')) w'):wpList P ops Q (o :: rest) a w:=by
 obtain ⟨A',c',w',hr,h1,h2,h3⟩:=cz_ (P:=P) w base t o.type e i z size bytes ht hi hz hsize hby hzs hsz v n xs hown xo m c news hxo hl hnews h1 h63 hbytes hbase
 exact Lib.wpList_append_run w hgd s x t t ho _ _ hs hx _ _ hr (h A' c' w' h1 h2 h3)
theorem dn_ {P:Program} {ops:Array Oper} {o:Oper} {a:Act} {w:World} {K:Act→World→Prop} {Q:Exit→Act→World→Prop} {E:Prop} (hgd:o.guard=none) (s x:Operand) (t:TypeId)
  (ho:o.op=.call { callee:=.builtin .append,args:=#[s,x],argTypes:=#[t,t] })
  (base:Nat) (e:TypeId) (i:TypeInfo) (z:Value) (size bytes:Nat) (ht:P.underlying t=some (.slice e)) (hi:P.info? e=some i) (hz:i.zero=some z)
  (hsize:i.size=size) (hby:i.bytes=bytes) (hzs:z.cells.size=size) (hsz:0<size)
  (v:Value) (n:Nat) (xs:VL) (hs:a.eval s=v) (hown:w.ownsRow base e size v n xs)
  (xo:OA) (m c:Nat) (news:VL) (hx:a.eval x=.slice xo m c) (hxo:xo=none→m=0) (hl:news.length=m*size) (hnews:∀ ad,xo=some ad→∀ (j:Nat) (u:Value),news[j]?=some u→w.cell? (ad.add j)=some u) (h1:∀ u ∈ news,u.oneCell'=true)
  (h63:n+m≤maxLen) (hbytes:(n+m)*bytes≤140737488355328) (hbase:base≤w.heap.size)
  (h:∀ A' c' w',w'.ownsRow base e size (.slice A' (n+m) c') (n+m) (xs ++ news)→w.grownBy w' v.ownBlock→(∀ g,(Value.slice A' (n+m) c').ownBlock=some g→v.ownBlock=some g\/g=w.heap.size)→K (a.put o.dst (.slice A' (n+m) c')) w') :
  if Region.wanted o (yielded ops a.tmps)=true then Oper.wp P o a w K Q else E:=by
 have hw:Region.wanted o (yielded ops a.tmps)=true:=by simp [Region.wanted,hgd]
 rw [if_pos hw]
 obtain ⟨A',c',w',hr,h1,h2,h3⟩:=cz_ (P:=P) w base t o.type e i z size bytes ht hi hz hsize hby hzs hsz v n xs hown xo m c news hxo hl hnews h1 h63 hbytes hbase
 exact Lib.wp_append_run w s x t t ho _ _ hs hx _ _ hr (h A' c' w' h1 h2 h3)
theorem step_append_zero {P:Program} {ops:Array Oper} {o:Oper} {a:Act} {w:World} {K:Act→World→Prop} {Q:Exit→Act→World→Prop} {E:Prop} (hgd:o.guard=none) (s x:Operand) (t:TypeId)
  (ho:o.op=.call { callee:=.builtin .append,args:=#[s,x],argTypes:=#[t,t] }) (e:TypeId) (i:TypeInfo) (ht:P.underlying t=some (.slice e)) (hi:P.info? e=some i)
  (ao:OA) (n cap:Nat) (hnc:n≤cap) (hs:a.eval s=.slice ao n cap) (xo:OA) (c:Nat) (hx:a.eval x=.slice xo 0 c) (hK:K (a.put o.dst (.slice ao n cap)) w) :
  if Region.wanted o (yielded ops a.tmps)=true then Oper.wp P o a w K Q else E:=by
 have hw:Region.wanted o (yielded ops a.tmps)=true:=by simp [Region.wanted,hgd]
 rw [if_pos hw]
 exact Lib.wp_append_run w s x t t ho _ _ hs hx _ _ (ct_ w t o.type e i ht hi ao n cap hnc xo c) hK
theorem own_src {w:World} {base:Nat} {e:TypeId} {size:Nat} {A:OA} {n c:Nat} {xs:VL} (h:w.ownsRow base e size (.slice A n c) n xs) :
  (A=none→n=0)∧∀ ad,A=some ad→∀ (j:Nat) (u:Value),xs[j]?=some u→w.cell? (ad.add j)=some u:=by
 refine ⟨fun hA=>?_,fun ad hA j u hu=>?_⟩
 ·subst hA
  rcases h.2 with ⟨h',h0⟩ | ⟨g,cap,cur,h',_⟩
  ·exact h0
  ·cases h'
 ·subst hA
  rcases h.2 with ⟨h',_⟩ | ⟨g,cap,cur,h',_⟩
  ·cases h'
  ·injection h' with h1 _ _
   injection h1 with h1
   subst h1
   exact h.cells (g:=g) rfl j u hu
theorem gcell {W w1:World} {row:Option Nat} (hg:W.grownBy w1 row):(∀ b o,b<W.heap.size→some b≠row→w1.cell? ⟨b,o,none⟩=W.cell? ⟨b,o,none⟩)∧(∀ b o,b<W.heap.size→some b≠row→w1.frozen? ⟨b,o,none⟩=W.frozen? ⟨b,o,none⟩) :=
 ⟨fun b _o h hne=>World.cell?_of_block (w:=W) (hg.block b h hne),fun b _o h hne=>World.frozen?_of_block (w:=W) (hg.block b h hne)⟩
theorem am_ {w:World} {base:Nat} {e:TypeId} {size:Nat} {A:OA} {n c:Nat} {xs:VL} (h:w.ownsRow base e size (.slice A n c) n xs) {k:Nat} (hk:(Value.slice A n c).ownBlock=some k):base≤k∧k<w.heap.size:=h.lt k hk
end Go.Proofs.YtfolidlmgfhkiaaGreat
namespace Go.Proofs.YtfolidlmgfhkiaaGreat
structure Val where
 ref:Bool
 n:Int
 deriving DecidableEq
def Val.cells (x:Val):VL:=[.bool x.ref,.int .i64 x.n]
theorem Val.size (x:Val):x.cells.length=2:=rfl
theorem val_one (l:List Val):∀ u ∈ l.flatMap Val.cells,u.oneCell'=true:=by
 intro u hu
 obtain ⟨t,_,ht⟩:=List.mem_flatMap.1 hu
 simp [Val.cells] at ht
 rcases ht with rfl | rfl <;> rfl
structure Ob where
 id:Int
 A:OA
 n:Nat
 c:Nat
 s:List Val
def Ob.cells (x:Ob):VL:=[.int .i64 x.id,.slice x.A x.n x.c]
theorem Ob.size (x:Ob):x.cells.length=2:=rfl
theorem ob_one (l:List Ob):∀ u ∈ l.flatMap Ob.cells,u.oneCell'=true:=by
 intro u hu
 obtain ⟨t,_,ht⟩:=List.mem_flatMap.1 hu
 simp [Ob.cells] at ht
 rcases ht with rfl | rfl <;> rfl
structure PO where
 id:Int
 s:List Val
 deriving DecidableEq
def Ob.po (x:Ob):PO:=⟨x.id,x.s⟩
def idx (id:Int):List PO→Option Nat
 | []=>none
 | x :: l=>if x.id=id then some 0 else (idx id l).map (·+1)
def idxI (id:Int) (l:List PO):Int:=match idx id l with | some i=>i | none=>-1
theorem idx_none {id:Int}:∀ {l:List PO},(∀ (i:Nat) (x:PO),l[i]?=some x→x.id≠id)→idx id l=none
 | [],_=>rfl
 | x :: l,h=>by simp [idx,h 0 x rfl,idx_none (l:=l) (fun i y hy=>h (i+1) y z0_)]
theorem idx_some {id:Int}:∀ {l:List PO} {i:Nat} {x:PO},l[i]?=some x→x.id=id→(∀ (j:Nat) (y:PO),j<i→l[j]?=some y→y.id≠id)→idx id l=some i
 | [],i,x,h,_,_=>by simp at h
 | y :: l,0,x,h,hx,_=>by simp at h;subst h;simp [idx,hx]
 | y :: l,i+1,x,h,hx,hb=>by
  have h0:=hb 0 y w6_ rfl
  have ih:=idx_some (l:=l) (i:=i) yp_ hx (fun j z hj hz=>hb (j+1) z w6_ yk_)
  simp [idx,h0,ih]
theorem bm_ (id:Int):∀ l:List PO,(idx id l=none∧∀ (i:Nat) (x:PO),l[i]?=some x→x.id≠id)\/∃ (i:Nat) (x:PO),idx id l=some i∧l[i]?=some x∧x.id=id∧∀ (j:Nat) (y:PO),j<i→l[j]?=some y→y.id≠id
 | []=>.inl ⟨rfl,zj_⟩
 | x :: l=>by
  by_cases h:x.id=id
  ·exact .inr ⟨0,x,by simp [idx,h],rfl,h,fun j y hj=>absurd hj w6_⟩
  ·rcases bm_ id l with ⟨h1,h2⟩ | ⟨i,y,h1,h2,h3,h4⟩
   ·refine .inl ⟨by simp [idx,h,h1],fun i y hy=>?_⟩
    match i,hy with
    | 0,hy=>simp at hy;subst hy;exact h
    | i+1,hy=>exact h2 i y z0_
   ·refine .inr ⟨i+1,y,by simp [idx,h,h1],wi_,h3,fun j z hj hz=>?_⟩
    match j,hz with
    | 0,hz=>simp at hz;subst hz;exact h
    | j+1,hz=>exact h4 j z w6_ yk_
def readV (id f:Int) (l:List PO):Option Val:=match idx id l with | some i=>(match l[i]? with | some x=>if 0≤f then x.s[f.toNat]? else none | none=>none) | none=>none
def cn_ (id f:Int) (l:List PO):Bool:=(readV id f l).isSome
def readD (id f:Int) (l:List PO):Val:=(readV id f l).getD ⟨false,0⟩
theorem read_no {id f:Int} {l:List PO} (h:idx id l=none):cn_ id f l=false∧readD id f l=⟨false,0⟩:=by simp [cn_,readD,readV,h]
theorem read_neg {id f:Int} {l:List PO} (h:f<0):cn_ id f l=false∧readD id f l=⟨false,0⟩:=by
 have:¬0≤f:=by omega
 have e:readV id f l=none:=by
  unfold readV;split
  ·split
   ·rw [if_neg this]
   ·rfl
  ·rfl
 simp [cn_,readD,e]
theorem read_far {id f:Int} {l:List PO} {i:Nat} {x:PO} (h:idx id l=some i) (hx:l[i]?=some x) (hf:(x.s.length:Int)≤f):cn_ id f l=false∧readD id f l=⟨false,0⟩:=by
 have e:readV id f l=none:=by
  simp only [readV,h,hx]
  rw [if_pos w6_,List.getElem?_eq_none w6_]
 simp [cn_,readD,e]
theorem read_at {id:Int} {j:Nat} {l:List PO} {i:Nat} {x:PO} {v:Val} (h:idx id l=some i) (hx:l[i]?=some x) (hv:x.s[j]?=some v):cn_ id (j:Int) l=true∧readD id (j:Int) l=v:=by
 have e:readV id (j:Int) l=some v:=by
  simp only [readV,h,hx]
  rw [if_pos w6_,Int.toNat_natCast,hv]
 simp [cn_,readD,e]
def gt (id:Int):List PO→Nat
 | []=>0
 | x :: l=>if id<x.id then 0 else gt id l+1
def putO (o:PO) (l:List PO):List PO:=match idx o.id l with | some i=>l.set i o | none=>l.take (gt o.id l) ++ [o] ++ l.drop (gt o.id l)
def writeO (i j:Nat) (v:Val) (l:List PO):List PO:=l.modify i fun x=>⟨x.id,x.s.set j v⟩
def OkAt (l:List PO) (i:Nat) (x:PO):Prop:=0<x.id∧(0<i→∀ y,l[i - 1]?=some y→y.id<x.id)
def ValidP (l:List PO):Prop:=∀ (i:Nat) (x:PO),l[i]?=some x→OkAt l i x
open Classical in
noncomputable def validB (l:List PO):Bool:=decide (ValidP l)
open Classical in
open Classical in
theorem po_at {l:List Ob} {i:Nat} {x:Ob} (h:l[i]?=some x):(l.map Ob.po)[i]?=some x.po:=by rw [List.getElem?_map,h];rfl
theorem po_at' {l:List Ob} {i:Nat} {y:PO} (h:(l.map Ob.po)[i]?=some y):∃ x,l[i]?=some x∧y=x.po:=by
 rw [List.getElem?_map] at h
 cases hx:l[i]? with
 | none=>rw [hx] at h;cases h
 | some x=>rw [hx] at h;injection h with h;exact ⟨x,rfl,h.symm⟩
theorem readB_true {id f:Int} {l:List PO} (h:cn_ id f l=true):∃ (i j:Nat) (x:PO),idx id l=some i∧l[i]?=some x∧f=(j:Int)∧j<x.s.length:=by
 unfold cn_ readV at h
 split at h
 ·rename_i i hi
  split at h
  ·rename_i x hx
   split at h
   ·rename_i h0
    refine ⟨i,f.toNat,x,hi,hx,w6_,?_⟩
    cases hs:x.s[f.toNat]? with
    | none=>rw [hs] at h;cases h
    | some v=>exact (List.getElem?_eq_some_iff.1 hs).1
   ·cases h
  ·cases h
 ·cases h
def wroteL (id f:Int) (v:Val) (l:List PO):List PO:=if cn_ id f l=true then (match idx id l with | some i=>writeO i f.toNat v l | none=>[]) else []
theorem wrote_no {id f:Int} {v:Val} {l:List PO} (h:cn_ id f l=false):wroteL id f v l=[]:=by simp [wroteL,h]
theorem wrote_at {id:Int} {i j:Nat} {v:Val} {l:List PO} (h:cn_ id (j:Int) l=true) (hi:idx id l=some i):wroteL id (j:Int) v l=writeO i j v l:=by simp [wroteL,h,hi]
theorem writeO_set {i j:Nat} {v:Val}:∀ {l:List PO} {x:PO},l[i]?=some x→writeO i j v l=l.set i ⟨x.id,x.s.set j v⟩:=by
 intro l x hx
 unfold writeO
 apply List.ext_getElem?
 intro k
 rw [List.getElem?_modify,gs_]
 by_cases hik:i=k
 ·subst hik
  rw [hx,if_pos rfl,if_pos (List.getElem?_eq_some_iff.1 hx).1]
  simp
 ·rw [if_neg hik];simp [hik]
end Go.Proofs.YtfolidlmgfhkiaaGreat
namespace Go.Proofs.YtfolidlmgfhkiaaGreat
open Go.RowKit
theorem sl_at {α:Type} {w:World} {B sz n g ao:Nat} {cells:α→VL} {l:List α} (h:Sl w B sz cells (some ⟨g,ao,none⟩) n l) {i:Nat} {x:α} (hx:l[i]?=some x) {j:Nat} {u:Value} (hu:(cells x)[j]?=some u):w.cell? ⟨g,ao+(i*sz+j),none⟩=some u:=by
 have hn:0<n:=by have:=(List.getElem?_eq_some_iff.1 hx).1;rw [h.len] at this;omega
 obtain ⟨ab,A0,e,_,hc⟩:=h.at_ hn
 injection e with e
 injection e with e1 e2
 subst e1 e2
 exact hc i x hx j u hu
theorem slot_ne {sz i k j j':Nat} (hj:j<sz) (hj':j'<sz) (h:i≠k\/j≠j'):i*sz+j≠k*sz+j':=by
 intro e
 have h1:(i*sz+j) / sz=i:=by rw [Nat.mul_comm,Nat.mul_add_div (by omega),Nat.div_eq_of_lt hj];omega
 have h2:(k*sz+j') / sz=k:=by rw [Nat.mul_comm,Nat.mul_add_div (by omega),Nat.div_eq_of_lt hj'];omega
 rw [e,h2] at h1
 subst h1
 rcases h with h | h
 ·exact h rfl
 ·omega
theorem Sl.lt {α:Type} {w:World} {B sz n g ao:Nat} {cells:α→VL} {l:List α} (h:Sl w B sz cells (some ⟨g,ao,none⟩) n l) (hn:0<n):g<B:=by
 obtain ⟨ab,A1,e,A0,_⟩:=h.at_ hn
 injection e with e
 injection e with e1 e2
 subst e1
 exact A0
theorem dp_ {w:World} {base:Nat} {e:TypeId} {size:Nat} {A:OA} {n c:Nat} {xs:VL} (h:w.ownsRow base e size (.slice A n c) n xs) (hn:0<n):∃ g,A=some ⟨g,0,none⟩∧base≤g∧g<w.heap.size∧∀ j,w.frozen? ⟨g,j,none⟩=false:=by
 obtain ⟨g,cap,hv,hb,A0⟩:=h.form hn
 injection hv with hv
 subst hv
 exact ⟨g,rfl,hb,A0,fun j=>h.frozenAt j⟩
theorem heap_new (w:World) (o:Obj):(w.alloc o).heap[w.heap.size]?=some o:=by show (w.heap.push o)[w.heap.size]?=some o;simp
theorem belc {B:Nat} {w w':World} (h:Below B w w') {b o:Nat} (hb:b<B):w'.cell? ⟨b,o,none⟩=w.cell? ⟨b,o,none⟩:=h.cell (p:=⟨b,o,none⟩) hb
theorem belf {B:Nat} {w w':World} (h:Below B w w') {b o:Nat} (hb:b<B):w'.frozen? ⟨b,o,none⟩=w.frozen? ⟨b,o,none⟩:=h.frozen (p:=⟨b,o,none⟩) hb
theorem dk_ {w:World} {base:Nat} {e:TypeId} {size:Nat} {A:OA} {n c:Nat} {xs:VL} (h:w.ownsRow base e size (.slice A n c) n xs):n≤c∧(A=none→c=0):=by
 rcases h.2 with ⟨h',h0⟩ | ⟨g,cap,cur,h',_,_,hnc,_⟩
 ·injection h' with h1 h2 h3
  subst h1 h3
  exact ⟨by omega,fun _=>rfl⟩
 ·injection h' with h1 h2 h3
  subst h1 h3
  exact ⟨hnc,fun h=>by cases h⟩
theorem own_cap {w:World} {base:Nat} {e:TypeId} {size:Nat} {A:OA} {n c:Nat} {xs:VL} (h:w.ownsRow base e size (.slice A n c) n xs):c≤9223372036854775807:=by
 rcases h.2 with ⟨h',h0⟩ | ⟨g,cap,cur,h',_,_,_,hcm,_⟩
 ·injection h' with h1 h2 h3
  subst h3
  omega
 ·injection h' with h1 h2 h3
  subst h3
  unfold maxLen at hcm;omega
theorem own_lo {w:World} {base:Nat} {e:TypeId} {size:Nat} {A:OA} {n c:Nat} {xs:VL} (h:w.ownsRow base e size (.slice A n c) n xs) {b:Nat} (hb:b≤base):∀ ad,A=some ad→b≤ad.block:=by
 intro ad hA
 subst hA
 rcases h.2 with ⟨h',_⟩ | ⟨g,cap,cur,h',hbg,_⟩
 ·cases h'
 ·injection h' with h1 _ _
  injection h1 with h1
  subst h1
  show b≤g
  omega
theorem Sl.src {α:Type} {w:World} {B sz n:Nat} {cells:α→VL} {A:OA} {l:List α} (h:Sl w B sz cells A n l) (hsz:∀ x,(cells x).length=sz):(A=none→n=0)∧(∀ ad,A=some ad→∀ (j:Nat) (u:Value),(l.flatMap cells)[j]?=some u→w.cell? (ad.add j)=some u):=by
 refine ⟨fun hA=>?_,fun ad hA j u hu=>?_⟩
 ·rcases Nat.eq_zero_or_pos n with h0 | h0
  ·exact h0
  ·obtain ⟨ab,ao,e,_⟩:=h.at_ h0
   rw [hA] at e;cases e
 ·have hj:j<(l.flatMap cells).length:=(List.getElem?_eq_some_iff.1 hu).1
  rw [cj_ hsz] at hj
  have hp:0<l.length:=by rcases Nat.eq_zero_or_pos l.length with h0 | h0;(rw [h0] at hj;omega);exact h0
  have hz:0<sz:=by rcases Nat.eq_zero_or_pos sz with h0 | h0;(rw [h0] at hj;omega);exact h0
  obtain ⟨ab,ao,e,_,A1⟩:=h.at_ (by rw [<-h.len];exact hp)
  rw [hA] at e
  injection e with e
  subst e
  rw [Addr.add_lit]
  have hd:j / sz<l.length:=Nat.div_lt_of_lt_mul (by rw [Nat.mul_comm];exact hj)
  have hx:=ge_ hd
  have hm:j % sz<(cells l[j / sz]).length:=by rw [hsz];exact Nat.mod_lt _ hz
  have h2:=flat_get hsz l (j / sz) _ hx (j % sz) _ (ge_ hm)
  have A0:j / sz*sz+j % sz=j:=Nat.div_add_mod' j sz
  rw [A0,hu] at h2
  injection h2 with h2
  have h3:=A1 _ _ hx (j % sz) _ (ge_ hm)
  rw [A0,<-h2] at h3
  exact h3
def Room (A:OA) (n c:Nat):Prop:=n≤c∧(A=none∧c=0\/∃ g o,A=some ⟨g,o,none⟩)
theorem own_mono {w:World} {base base':Nat} {e:TypeId} {size:Nat} {v:Value} {n:Nat} {xs:VL} (h:w.ownsRow base e size v n xs) (hb:base'≤base):w.ownsRow base' e size v n xs:=by
 refine ⟨h.1,?_⟩
 rcases h.2 with h' | ⟨g,cap,cur,hv,hg,hr⟩
 ·exact .inl h'
 ·exact .inr ⟨g,cap,cur,hv,by omega,hr⟩
theorem flat_set2 {α:Type} {cells:α→VL} (hsz:∀ x,(cells x).length=2) (x':α) (u v:Value) (hx:cells x'=[u,v]):∀ (l:List α) (k:Nat),k<l.length→((l.flatMap cells).set (k*2) u).set (k*2+1) v=(l.set k x').flatMap cells
 | [],k,h=>by simp at h
 | y :: l,0,_=>by
  have hy:=hsz y
  match hc:cells y,hy with
  | [a,b],_=>simp [List.flatMap_cons,hc,hx]
 | y :: l,k+1,h=>by
  have hy:=hsz y
  have ih:=flat_set2 hsz x' u v hx l k (by simpa using h)
  match hc:cells y,hy with
  | [a,b],_ =>
   simp only [List.flatMap_cons,hc,List.set_cons_succ]
   rw [<-ih,show (k+1)*2=k*2+1+1 from by omega,show k*2+1+1+1=k*2+1+1+1 from rfl]
   simp
theorem own_put2 {α:Type} {cells:α→VL} (hsz:∀ x,(cells x).length=2) {w:World} {base:Nat} {e:TypeId} {g n c:Nat} {l:List α} (h:w.ownsRow base e 2 (.slice (some ⟨g,0,none⟩) n c) n (l.flatMap cells)) (hl:l.length=n) {k:Nat} (hk:k<n) (x':α) (u v:Value) (hx:cells x'=[u,v]) :
  ((w.setCell ⟨g,k*2,none⟩ u).setCell ⟨g,k*2+1,none⟩ v).ownsRow base e 2 (.slice (some ⟨g,0,none⟩) n c) n ((l.set k x').flatMap cells):=by
 rw [<-flat_set2 hsz x' u v hx l k (by omega)]
 exact ((h.stored _ _).1.stored _ _).1
theorem Sl.apart {α:Type} {w w':World} {B sz n:Nat} {cells:α→VL} {A:OA} {l:List α} {row:Option Nat} (h:Sl w B sz cells A n l) (hB:B≤w.heap.size) (hg:w.grownBy w' row) (hne:0<n→∀ ad,A=some ad→some ad.block≠row):Sl w' B sz cells A n l :=
 ⟨h.len,fun hn=>by
  obtain ⟨ab,ao,e,A0,hc⟩:=h.at_ hn
  exact ⟨ab,ao,e,A0,fun i x hx j u hu=>((gcell hg).1 ab _ (by omega) (hne hn _ e)).trans (hc i x hx j u hu)⟩⟩
theorem dt_ (w:World) (p:Addr) (u:Value):w.grownBy (w.setCell p u) (some p.block) :=
 ⟨rfl,rfl,rfl,by simp,fun k _ A0=>Below.heap_setCell w p u k (fun e=>A0 (by rw [e]))⟩
theorem grown2 (w:World) (g i j:Nat) (u v:Value):w.grownBy ((w.setCell ⟨g,i,none⟩ u).setCell ⟨g,j,none⟩ v) (some g):=(dt_ w ⟨g,i,none⟩ u).trans (dt_ _ ⟨g,j,none⟩ v)
theorem own_eq {w:World} {base:Nat} {e:TypeId} {size a b c:Nat} {A:OA} {xs:VL} (h:a=b) (ho:w.ownsRow base e size (.slice A a c) a xs):w.ownsRow base e size (.slice A b c) b xs:=by subst h;exact ho
theorem Sl.put2 {α:Type} {w:World} {B n g ao k:Nat} {cells:α→VL} {l:List α} {u v:Value} (hsz:∀ x,(cells x).length=2) (h:Sl w B 2 cells (some ⟨g,ao,none⟩) n l) (hk:k<n) (x':α) (hx:cells x'=[u,v]) (p q:Addr) (hp:p=⟨g,ao+k*2,none⟩) (hq:q=⟨g,ao+k*2+1,none⟩) :
  Sl ((w.setCell p u).setCell q v) B 2 cells (some ⟨g,ao,none⟩) n (l.set k x'):=by
 subst hp hq
 obtain ⟨t,ht⟩:∃ t,l[k]?=some t:=⟨_,ge_ (by rw [h.len];exact hk)⟩
 refine ⟨by rw [List.length_set];exact h.len,fun hn=>⟨g,ao,rfl,h.lt hn,fun i x A0 j s hs=>?_⟩⟩
 rw [gs_] at A0
 have hj:j<2:=by have:=(List.getElem?_eq_some_iff.1 hs).1;rwa [hsz] at this
 by_cases hik:k=i
 ·subst hik
  rw [if_pos rfl,if_pos (by rw [h.len];exact hk)] at A0
  injection A0 with A0
  subst A0
  rw [hx] at hs
  have e0:w.cell? ⟨g,ao+k*2,none⟩=some ((cells t)[0]'(by rw [hsz];omega)):=sl_at h ht (j:=0) (ge_ _)
  have e1:w.cell? ⟨g,ao+k*2+1,none⟩=some ((cells t)[1]'(by rw [hsz];omega)):=sl_at h ht (j:=1) (ge_ _)
  match j,hj,hs with
  | 0,_,hs =>
   injection hs with hs;subst hs
   rw [Nat.add_zero,bh_ _ _ _ _ (by intro e;injection e with e1 e2;omega)]
   exact World.cell?_setCell_same _ _ _ e0
  | 1,_,hs =>
   injection hs with hs;subst hs
   exact World.cell?_setCell_same _ _ _ ((bh_ _ _ _ _ (by intro e;injection e with e1 e2;omega)).trans e1)
 ·rw [if_neg hik] at A0
  rw [bh_ _ _ _ _ (by intro e;injection e with e1 e2;omega),bh_ _ _ _ _ (by intro e;injection e with e1 e2;omega)]
  exact sl_at h A0 hs
/-- A world where a number is asked: the size of its heap. -/
instance : Coe World Nat := ⟨fun w => w.heap.size⟩
theorem l_ {n : Nat} : n ≤ n := Nat.le_refl n
theorem e_ {α : Type} {l : List α} {i : Nat} {a : α} (h : l[i]? = some a) : ∃ h : i < l.length, l[i] = a := List.getElem?_eq_some_iff.1 h
theorem b_ {B : Nat} {w : World} : Below B w w := Below.refl B w
/-- A fact kept from the walk, as the kit's own Hid, with a shorter way back. -/
theorem q_ {p : Prop} (h : p) : Hid p := h
theorem sA {α : Type} {l : List α} {i : Nat} {a : α} : l.toArray.setIfInBounds i a = (l.set i a).toArray := by simp
theorem s0 {α : Type} {x a : α} {l : List α} : (x :: l).set 0 a = a :: l := rfl
theorem s1 {α : Type} {x a : α} {l : List α} {i : Nat} : (x :: l).set (i + 1) a = x :: l.set i a := rfl
theorem bel {B : Nat} {w w0 w' : World} (h : Below B w w0) (f : Below B w w0 → Below B w w' := by (intro h; repeat (first | (with_reducible exact h) | (with_reducible refine Below.drew ?_) | (with_reducible refine below_drewN ?_ _) | (with_reducible refine Below.setCell ?_ ?_ _; rotate_left; (first | omega | (simp <;> omega))) | (with_reducible refine Below.alloc ?_ ?_ _; rotate_left; (first | omega | (simp <;> omega)))))) : Below B w w' := f h
theorem o_ {p : Prop} (h : p := by omega) : p := h
theorem d_ {p : Prop} (h : p := by decide) : p := h
theorem k_ {p : Prop} (h : p := by kernel_rfl) : p := h
theorem v_ {p : Prop} (h : p := by simp [Act.eval, Act.put]) : p := h
theorem w_ {p : Prop} (h : p := by simp [Act.eval, Act.put] <;> rfl) : p := h
abbrev pt (b : Nat) : Value := .pointer (some ⟨b, 0, none⟩)
abbrev a_ (b : Nat) : Addr := ⟨b, 0, none⟩
abbrev f_ (b i : Nat) : Addr := ⟨b, i, none⟩
abbrev i_ (n : Int) : Value := .int .i64 n
theorem h_ (p : Prop) (h : p) : Hid p := h
theorem x_ {p : Prop} (h : p := by (intro h; cases h)) : p := h
theorem m_ {p : Prop} (h : p := by (unfold maxLen; omega)) : p := h
theorem t_ {p : Prop} (h : p := by simp) : p := h
theorem y_ {p : Prop} (h : p := by simp <;> omega) : p := h
theorem n_ {α : Type} {l : Array α} {i : Nat} {x : α} {p : Prop} (ho : l[i]? = some x) (h : ¬ i < l.size := by simp) : p := absurd (Array.getElem?_eq_some_iff.1 ho).1 h
theorem cfL {p : Prop} (h : p := by (go_wp2_with (first | (go_at_call 168;first | (refine (az_ x.a _ _).mono ?_;rintro e Y ⟨⟨rA,rfl,hA⟩,hY⟩;have HV2:=q_ (HV.o.trans (hY.mono HV.o.size));clear HV hY c0 c1 c2 x0 x1 x2 x3 x4 s0 s1 s2 s3 hbw hsl;have HV:=HV2;clear HV2;obtain ⟨⟨c0,c1,c2⟩,⟨x0,x1,x2,x3,x4⟩,⟨s0,s1,s2,s3⟩,hbw2,hsl2⟩:=HQ.o Y HV.o;have hbw:=q_ hbw2;have hsl:=q_ hsl2;clear hbw2 hsl2) | (refine (az_ x.b _ _).mono ?_;rintro e Y ⟨⟨rB,rfl,hB⟩,hY⟩;have HV2:=q_ (HV.o.trans (hY.mono HV.o.size));clear HV hY c0 c1 c2 x0 x1 x2 x3 x4 s0 s1 s2 s3 hbw hsl;have HV:=HV2;clear HV2;obtain ⟨⟨c0,c1,c2⟩,⟨x0,x1,x2,x3,x4⟩,⟨s0,s1,s2,s3⟩,hbw2,hsl2⟩:=HQ.o Y HV.o;have hbw:=q_ hbw2;have hsl:=q_ hsl2;clear hbw2 hsl2) | (refine (az_ x.c _ _).mono ?_;rintro e Y ⟨⟨rC,rfl,hC⟩,hY⟩;have HV2:=q_ (HV.o.trans (hY.mono HV.o.size));clear HV hY c0 c1 c2 x0 x1 x2 x3 x4 s0 s1 s2 s3 hbw hsl;have HV:=HV2;clear HV2;obtain ⟨⟨c0,c1,c2⟩,⟨x0,x1,x2,x3,x4⟩,⟨s0,s1,s2,s3⟩,hbw2,hsl2⟩:=HQ.o Y HV.o;have hbw:=q_ hbw2;have hsl:=q_ hsl2;clear hbw2 hsl2)) | (go_at_call 128;refine (op_any (some ⟨ab,ao,none⟩) n c v s _ l _ hsl.o o_).mono ?_;rintro e Y ⟨⟨q,rfl,hq⟩,hY⟩;have HV2:=q_ (HV.o.trans (hY.mono HV.o.size));clear HV hY c0 c1 c2 x0 x1 x2 x3 x4 s0 s1 s2 s3 hbw hsl;have HV:=HV2;clear HV2;obtain ⟨⟨c0,c1,c2⟩,⟨x0,x1,x2,x3,x4⟩,⟨s0,s1,s2,s3⟩,hbw2,hsl2⟩:=HQ.o Y HV.o;have hbw:=q_ hbw2;have hsl:=q_ hsl2;clear hbw2 hsl2) | (go_at_call 169;refine (ep_ _ _).mono ?_;rintro e Y ⟨⟨ba,rfl⟩,hY⟩;have HV2:=q_ (HV.o.trans (hY.mono HV.o.size));clear HV hY c0 c1 c2 x0 x1 x2 x3 x4 s0 s1 s2 s3 hbw hsl;have HV:=HV2;clear HV2;obtain ⟨⟨c0,c1,c2⟩,⟨x0,x1,x2,x3,x4⟩,⟨s0,s1,s2,s3⟩,hbw2,hsl2⟩:=HQ.o Y HV.o;have hbw:=q_ hbw2;have hsl:=q_ hsl2;clear hbw2 hsl2) | (go_at_call 170;refine (Name_any _ _).mono ?_;rintro e Y ⟨⟨ns,nb,rfl⟩,hY⟩;have HV2:=q_ (HV.o.trans (hY.mono HV.o.size));clear HV hY c0 c1 c2 x0 x1 x2 x3 x4 s0 s1 s2 s3 hbw hsl;have HV:=HV2;clear HV2;obtain ⟨⟨c0,c1,c2⟩,⟨x0,x1,x2,x3,x4⟩,⟨s0,s1,s2,s3⟩,hbw2,hsl2⟩:=HQ.o Y HV.o;have hbw:=q_ hbw2;have hsl:=q_ hsl2;clear hbw2 hsl2)); all_goals (go_ret; exact ⟨rfits_no l i x, hbw.o⟩))) : p := h
theorem H0_{p:Prop}(h:p:=by exact hin 0 rfl _ _ rfl rfl):p:=h
theorem H1_{p:Prop}(h:p:=by exact hin 1 rfl _ _ rfl rfl):p:=h
theorem H2_{p:Prop}(h:p:=by exact hin 2 rfl _ _ rfl rfl):p:=h
theorem H3_{p:Prop}(h:p:=by exact hin 3 rfl _ _ rfl rfl):p:=h
theorem H4_{p:Prop}(h:p:=by exact hin 4 rfl _ _ rfl rfl):p:=h
theorem H5_{p:Prop}(h:p:=by exact hin 5 rfl _ _ rfl rfl):p:=h
theorem H6_{p:Prop}(h:p:=by exact hin 6 rfl _ _ rfl rfl):p:=h
theorem H7_{p:Prop}(h:p:=by exact hin 7 rfl _ _ rfl rfl):p:=h
theorem H8_{p:Prop}(h:p:=by exact hin 8 rfl _ _ rfl rfl):p:=h
theorem H9_{p:Prop}(h:p:=by exact hin 9 rfl _ _ rfl rfl):p:=h
theorem H10_{p:Prop}(h:p:=by exact hin 10 rfl _ _ rfl rfl):p:=h
theorem H11_{p:Prop}(h:p:=by exact hin 11 rfl _ _ rfl rfl):p:=h
theorem H12_{p:Prop}(h:p:=by exact hin 12 rfl _ _ rfl rfl):p:=h
theorem H13_{p:Prop}(h:p:=by exact hin 13 rfl _ _ rfl rfl):p:=h
theorem H14_{p:Prop}(h:p:=by exact hin 14 rfl _ _ rfl rfl):p:=h
theorem H15_{p:Prop}(h:p:=by exact hin 15 rfl _ _ rfl rfl):p:=h
theorem H16_{p:Prop}(h:p:=by exact hin 16 rfl _ _ rfl rfl):p:=h
theorem H17_{p:Prop}(h:p:=by exact hin 17 rfl _ _ rfl rfl):p:=h
theorem H18_{p:Prop}(h:p:=by exact hin 18 rfl _ _ rfl rfl):p:=h
theorem H19_{p:Prop}(h:p:=by exact hin 19 rfl _ _ rfl rfl):p:=h
theorem M0_{p:Prop}(h:p:=by exact bl_ (.inl rfl) (show (kV _ (pt b)).p w _ from (hout 0 d_)) hI):p:=h
theorem cuF{p:Prop}(h:p:=by (go_region_law fail; all_goals (go_wp2_with fail; go_meet; exact ⟨V.heap.size, rfl, l_, q_ ((Bx.new V [.bool rt, i_ rn] _).drew), q_ (((b_).alloc (l_) _).drew)⟩))):p:=h
abbrev zl1:VL:=[.int .i64 0,.int .i64 0,.bool false,.int .i64 0,.bool false,.int .i64 0,.bool false,.int .i64 0,.bool false,.int .i64 0,.bool false,.int .i64 0,.bool false,.int .i64 0,.bool false,.int .i64 0,.bool false,.int .i64 0,.bool false,.int .i64 0,.bool false,.int .i64 0,.bool false,.int .i64 0,.bool false,.int .i64 0,.bool false,.int .i64 0,.bool false,.int .i64 0,.bool false,.int .i64 0,.bool false,.int .i64 0,.bool false,.int .i64 0,.slice none 0 0,.slice none 0 0,.slice none 0 0,.slice none 0 0,.slice none 0 0,.slice none 0 0,.int .i64 0,.int .i64 0,.bool false,.bool false,.int .i64 0,.int .i64 0]
abbrev zl2:VL:=[.slice none 0 0,.int .i64 0,.bool false,.int .i64 0,.bool false,.int .i64 0,.bool false,.int .i64 0,.bool false,.int .i64 0,.bool false,.int .i64 0,.bool false,.int .i64 0,.bool false,.int .i64 0,.bool false,.int .i64 0,.bool false,.int .i64 0,.bool false,.int .i64 0,.bool false,.int .i64 0,.bool false,.int .i64 0,.bool false,.int .i64 0,.bool false,.int .i64 0,.bool false,.int .i64 0,.bool false,.int .i64 0,.int .i64 0,.int .i64 0,.slice none 0 0,.bool false,.bool false,.bool false,.int .i64 0,.int .i64 0]
abbrev zl3:VL:=[.slice none 0 0,.int .i64 0,.int .i64 0,.slice none 0 0,.bool false,.bool false,.bool false,.int .i64 0,.int .i64 0,.int .i64 0]
abbrev zl4:VL:=[.bool false,.int .i64 0,.bool false,.int .i64 0,.bool false,.int .i64 0,.bool false,.int .i64 0,.bool false,.int .i64 0,.bool false,.int .i64 0,.bool false,.int .i64 0,.bool false,.int .i64 0,.bool false,.int .i64 0,.bool false,.int .i64 0,.bool false,.int .i64 0,.bool false,.int .i64 0,.bool false,.int .i64 0,.bool false,.int .i64 0,.bool false,.int .i64 0,.bool false,.int .i64 0]
abbrev zl5:VL:=[.slice none 0 0,.int .i64 0,.int .i64 0,.int .i64 0,.bool false,.int .i64 0,.bool false,.int .i64 0,.bool false,.int .i64 0,.bool false,.int .i64 0,.bool false,.int .i64 0,.bool false,.int .i64 0,.bool false,.int .i64 0,.bool false,.int .i64 0,.bool false,.int .i64 0,.bool false,.int .i64 0,.bool false,.int .i64 0,.bool false,.int .i64 0,.bool false,.int .i64 0,.bool false,.int .i64 0,.bool false,.int .i64 0,.bool false,.int .i64 0,.slice none 0 0,.int .i64 0,.int .i64 0,.int .i64 0,.bool false,.int .i64 0,.bool false,.int .i64 0,.bool false,.int .i64 0,.bool false,.int .i64 0,.bool false,.int .i64 0,.bool false,.int .i64 0,.bool false,.int .i64 0,.bool false,.int .i64 0,.bool false,.int .i64 0,.bool false,.int .i64 0,.bool false,.int .i64 0,.bool false,.int .i64 0,.bool false,.int .i64 0,.bool false,.int .i64 0,.bool false,.int .i64 0,.bool false,.int .i64 0,.slice none 0 0,.slice none 0 0,.slice none 0 0,.slice none 0 0,.slice none 0 0,.int .i64 0,.bool false,.bool false,.int .i64 0,.bool false]
abbrev zl6:VL:=[.int .i64 0,.int .i64 0,.bool false,.int .i64 0,.bool false,.int .i64 0,.bool false,.int .i64 0,.bool false,.int .i64 0,.bool false,.int .i64 0,.bool false,.int .i64 0,.bool false,.int .i64 0,.bool false,.int .i64 0,.bool false,.int .i64 0,.bool false,.int .i64 0,.bool false,.int .i64 0,.bool false,.int .i64 0,.bool false,.int .i64 0,.bool false,.int .i64 0,.bool false,.int .i64 0,.bool false,.int .i64 0,.slice none 0 0,.slice none 0 0,.slice none 0 0,.slice none 0 0,.slice none 0 0,.int .i64 0,.bool false,.bool false,.int .i64 0]
abbrev zl7:VL:=[.slice none 0 0,.int .i64 0,.int .i64 0,.slice none 0 0,.slice none 0 0,.slice none 0 0,.int .i64 0,.int .i64 0,.slice none 0 0,.bool false,.bool false,.bool false,.int .i64 0,.int .i64 0,.int .i64 0,.slice none 0 0,.int .i64 0]
def cutA (A:OA) (c k sz:Nat):OA:=if c=k then A else A.map (·.add (k*sz))
theorem slice_high {P:Program} {t e:TypeId} {i:TypeInfo} (hu:P.underlying t=some (.slice e)) (hi:P.info? e=some i) {A:OA} {n c k:Nat} (hk:k≤c) (w:World) :
  (Instr.slice t (.slice A n c) none (some (.int .i64 k)) none).run P w=.ok (.slice A k c) w:=by
 have hm:A.map (·.add 0)=A:=by cases A <;> simp [Addr.add]
 simp [Instr.slice,run_underlying hu,Instr.sliceBounds,Instr.sliceBound,asIntOf,hk,sizeOf,typeInfo,hi,hm]
theorem es_ {P:Program} {t e:TypeId} {i:TypeInfo} (hu:P.underlying t=some (.slice e)) (hi:P.info? e=some i) {A:OA} {n c k:Nat} (hk:k≤n) (w:World) :
  (Instr.slice t (.slice A n c) (some (.int .i64 k)) none none).run P w=.ok (.slice (cutA A c k i.size) (n - k) (c - k)) w:=by
 simp [Instr.slice,run_underlying hu,Instr.sliceBounds,Instr.sliceBound,asIntOf,hk,sizeOf,typeInfo,hi,cutA]
theorem Sl.src_low {α:Type} {w:World} {B sz:Nat} {cells:α→VL} {A:OA} {n c k:Nat} {l:List α} (h:Sl w B sz cells A n l) (hsz:∀ x,(cells x).length=sz) (hnc:n≤c) :
  (cutA A c k sz=none→n - k=0)∧∀ ad,cutA A c k sz=some ad→∀ (j:Nat) (u:Value),((l.drop k).flatMap cells)[j]?=some u→w.cell? (ad.add j)=some u:=by
 by_cases hk:k<n
 ·obtain ⟨ab,ao,rfl,_,_⟩:=h.at_ (by omega)
  have hne:¬c=k:=by omega
  unfold cutA
  rw [if_neg hne]
  refine ⟨fun h=>absurd h (by simp),fun ad A0 j u hu=>?_⟩
  injection A0 with A0
  subst A0
  rw [<-flat_drop hsz,List.getElem?_drop] at hu
  have:=(h.src hsz).2 _ rfl (k*sz+j) u hu
  show w.cell? (Addr.add (Addr.add ⟨ab,ao,none⟩ (k*sz)) j)=some u
  rw [Addr.add_lit] at this
  rwa [Addr.add_lit,Addr.add_lit,Nat.add_assoc]
 ·refine ⟨fun _=>by omega,fun ad _ j u hu=>?_⟩
  rw [List.drop_eq_nil_of_le (by rw [h.len];omega)] at hu
  simp at hu
section
variable {P : Program} {ops : Array Oper} {Q : Exit → Act → World → Prop} {md : Region.Mode}
/-- An operation is taken first; its temporary is named. -/
theorem takeP (i : Nat) (d : Option Tmp) (v : Value) {S : World → Prop} {oi : Oper} {fuel : Nat} {listed : Array Bool} {a : Act} {w : World} (hi : ops[i]? = some oi) (hd : oi.dst = d) (hs : Region.noSelect ops = true) (hf : Region.free md ops listed i = true)
    (hr : (Region.ready md ops listed).contains i = true) (hQ : ∀ c a w, Q (.panic c) (a.put oi.dst v) w → Q (.panic c) a w) (hy : YieldsIf P ops S oi v a) (hS : S w)
    (h : wpAnyH P md ops Q S fuel (listed.setIfInBounds i true) (a.put d v) w) : wpAnyH P md ops Q S (fuel + 1) listed a w := by
  subst hd
  exact wpAnyH_take hi hs hf hr hQ hy hS h
/-- One operation alone can come next: it is carried out; S is shown anew. -/
theorem ba_ (i : Nat) {S : World → Prop} {oi : Oper} {fuel : Nat} {listed : Array Bool} {a : Act} {w : World} (hr : Region.ready md ops listed = [i]) (hi : ops[i]? = some oi)
    (h : ∀ K' : Act → World → Prop, Shut (∀ a w, S w → (S w → wpAnyH P md ops Q S fuel (listed.setIfInBounds i true) a w) → K' a w) → if Region.wanted oi (yielded ops a.tmps) = true then Oper.wp P oi a w K' Q else K' (a.put oi.dst undef) w) :
    wpAnyH P md ops Q S (fuel + 1) listed a w :=
  wpAnyH_ready hr zj_ (AllReadyH.cons hi h AllReadyH.nil)
/-- The same, with all that is alike left to Lean. -/
theorem aa_ (i d : Nat) {v : Value} {S : World → Prop} {oi : Oper} {fuel : Nat} {listed : Array Bool} {a a' : Act} {w : World} (h : wpAnyH P md ops Q S fuel (listed.setIfInBounds i true) a' w)
    (hi : ops[i]? = some oi := by rfl) (hd : oi.dst = some d := by rfl) (hs : Region.noSelect ops = true := by kernel_rfl) (hf : Region.free md ops listed i = true := by kernel_rfl) (hr : (Region.ready md ops listed).contains i = true := by kernel_rfl)
    (hQ : ∀ c a w, Q (.panic c) (a.put oi.dst v) w → Q (.panic c) a w := by exact fun _ _ _ h => h) (hw : Region.wanted oi (yielded ops a.tmps) = true := by rfl)
    (hy : ∀ w', S w' → (execOp a.eval oi).run P w' = .ok (.value v) w' := by (intro w' hSw; (try dsimp only at hSw); first | (go_simp; first | done | with_reducible rfl) | (simp only [List.getElem_toArray, List.getElem_cons_zero, List.getElem_cons_succ]; go_simp; first | done | with_reducible rfl))) (hS : S w := by assumption)
    (ha : a.put (some d) v = a' := by (first | (simp only [Act.put, List.setIfInBounds_toArray, List.set_cons_zero, List.set_cons_succ]; rfl) | (simp only [Act.put, List.setIfInBounds_toArray, List.set_cons_zero, List.set_cons_succ]) | rfl)) : wpAnyH P md ops Q S (fuel + 1) listed a w := by
  subst ha
  exact takeP i (some d) v hi hd hs hf hr hQ (.inl ⟨hw, hy⟩) hS h
theorem ak_ (i d : Nat) {S : World → Prop} {oi : Oper} {fuel : Nat} {listed : Array Bool} {a a' : Act} {w : World} (h : wpAnyH P md ops Q S fuel (listed.setIfInBounds i true) a' w)
    (hi : ops[i]? = some oi := by rfl) (hd : oi.dst = some d := by rfl) (hs : Region.noSelect ops = true := by kernel_rfl) (hf : Region.free md ops listed i = true := by kernel_rfl) (hr : (Region.ready md ops listed).contains i = true := by kernel_rfl)
    (hQ : ∀ c a w, Q (.panic c) (a.put oi.dst undef) w → Q (.panic c) a w := by exact fun _ _ _ h => h) (hw : Region.wanted oi (yielded ops a.tmps) = false := by rfl) (hS : S w := by assumption)
    (ha : a.put (some d) undef = a' := by (first | (simp only [Act.put, List.setIfInBounds_toArray, List.set_cons_zero, List.set_cons_succ]; rfl) | (simp only [Act.put, List.setIfInBounds_toArray, List.set_cons_zero, List.set_cons_succ]) | rfl)) : wpAnyH P md ops Q S (fuel + 1) listed a w := by
  subst ha
  exact takeP i (some d) undef hi hd hs hf hr hQ (.inr ⟨hw, rfl⟩) hS h
theorem bc_ (i : Nat) {S : World → Prop} {oi : Oper} {fuel : Nat} {listed : Array Bool} {a a' : Act} {w : World} (h : ∀ K' : Act → World → Prop, Shut (∀ a w, S w → (S w → wpAnyH P md ops Q S fuel (listed.setIfInBounds i true) a w) → K' a w) → if Region.wanted oi (yielded ops a'.tmps) = true then Oper.wp P oi a' w K' Q else K' (a'.put oi.dst undef) w)
    (hr : Region.ready md ops listed = [i] := by kernel_rfl) (hi : ops[i]? = some oi := by rfl) (ha : a = a' := by (first | (simp only [Act.put, sA, s0, s1]; rfl) | (simp only [Act.put, sA, s0, s1]) | rfl)) :
    wpAnyH P md ops Q S (fuel + 1) listed a w := by
  subst ha
  exact ba_ i hr hi h
/-- The beginning. -/
theorem aq_ {id : Nat} {a : Act} {w : World} {S : World → Prop} (hm : P.follows .mixedOrders = true) (hS : S w.drew)
    (h : S w.drew → wpAnyH P .any ops Q S ops.size (Array.replicate ops.size false) a w.drew) : (Code.region id ops true).wp P Q a w :=
  wp_region_held_drew hm hS h
end
end Go.Proofs.YtfolidlmgfhkiaaGreat
namespace Go.Proofs.YtfolidlmgfhkiaaGreat.Sq
open Go.RowKit
structure Cl where
 id:Int
 field:Int
 ref:Bool
 n:Int
structure Dt where
 id:Int
 field:Int
 op:Int
 ref:Bool
 n:Int
def Cl.cells (x:Cl):VL:=[i_ x.id,i_ x.field,.bool x.ref,i_ x.n]
theorem Cl.size (x:Cl):x.cells.length=4:=rfl
def Dt.cells (x:Dt):VL:=[i_ x.id,i_ x.field,i_ x.op,.bool x.ref,i_ x.n]
theorem Dt.size (x:Dt):x.cells.length=5:=rfl
structure Tk where
 RA:OA
 rn:Nat
 rc:Nat
 WA:OA
 wn:Nat
 wc:Nat
 NA:OA
 nn:Nat
 nc:Nat
 DA:OA
 dn:Nat
 dc:Nat
 rs:List Cl
 ws:List Cl
 ns:List Ob
 ds:List Dt
 cells:VL
 size:cells.length=48
 c37:cells[37]?=some (.slice RA rn rc)
 c38:cells[38]?=some (.slice WA wn wc)
 c39:cells[39]?=some (.slice NA nn nc)
 c40:cells[40]?=some (.slice DA dn dc)
 one:cells.all (·.oneCell')=true
def sameC (id field:Int) (x:Cl):Bool:=x.id == id && x.field == field
def sameD (id field:Int) (x:Dt):Bool:=x.id == id && x.field == field
def sameO (id:Int) (x:Ob):Bool:=x.id == id
def gives (id field:Int) (t:Tk):Bool:=t.ns.any (sameO id) || (t.ws.any (sameC id field) || t.ds.any (sameD id field))
def rvTo {α:Type} (l:List α):Nat->List (Nat × α)
 | 0=>[]
 | m+1=>match l[m]? with
  | some t=>(m,t) :: rvTo l m
  | none=>rvTo l m
theorem rvTo_map {α β:Type} (f:α->β) (l:List α):∀ k,rvTo (l.map f) k=(rvTo l k).map fun x=>(x.1,f x.2)
 | 0=>rfl
 | k+1=>by
  unfold rvTo;rw [List.getElem?_map,rvTo_map f l k];cases l[k]? <;> rfl
def srcP (hr:Int->Int->Bool) (l:List Tk) (k:Nat) (id field:Int):Int :=
 match (rvTo l k).find? (fun x=>gives id field x.2) with | some x=>x.1 | none=>if hr id field then -1 else -2
def taint (src:Nat->Cl->Int) (out:List Int) (j:Nat) (t:Tk):Bool:=t.rs.any (fun c=>out.contains (src j c))
def dep (src:Nat->Cl->Int) (l:List Tk) (k:Nat):Nat->List Int
 | 0=>[(k:Int)]
 | m+1=>match l[k+1+m]? with
  | some t=>if taint src (dep src l k m) (k+1+m) t then dep src l k m ++ [((k+1+m:Nat):Int)] else dep src l k m
  | none=>dep src l k m
section
variable {src:Nat->Cl->Int} {l:List Tk} {k m m':Nat}
theorem dy_:∀ (m:Nat) (x:Int),x ∈ dep src l k m->∃ i:Nat,x=(i:Int)/\k<=i/\i<=k+m
 | 0,x,h=>⟨k,by simpa [dep] using h,l_,o_⟩
 | m+1,x,h=>by
  have ih:=dy_ m x;unfold dep at h;split at h
  ·split at h
   ·rcases List.mem_append.1 h with h | h
    ·exact te_
    exact ⟨k+1+m,List.mem_singleton.1 h,o_,o_⟩
   exact te_
  exact te_
theorem dep_mono_step:∀ x,x ∈ dep src l k m->x ∈ dep src l k (m+1):=fun x h=>by
 rw [dep];split
 ·split
  ·exact List.mem_append_left _ h
  exact h
 exact h
theorem dep_mono (h:m<=m'):∀ x,x ∈ dep src l k m->x ∈ dep src l k m':=by
 induction h with
 | refl=>exact fun x h=>h
 | step h ih=>exact fun x hx=>dep_mono_step x (ih x hx)
theorem dep_first (m:Nat):(k:Int) ∈ dep src l k m:=dep_mono (Nat.zero_le m) _ (by simp [dep])
theorem dep_early:∀ (m:Nat) (i:Nat),(i:Int) ∈ dep src l k m->k<i->(i:Int) ∈ dep src l k (i - k)
 | 0,i,h,hk=>by
  have h0:(i:Int)=(k:Int):=by simpa [dep] using h
  omega
 | m+1,i,h,hk=>by
  by_cases hi:i=k+1+m
  ·subst hi;rw [show k+1+m - k=m+1 by omega];exact h
  refine dep_early m i ?_ hk;rw [dep] at h;split at h
  ·split at h
   ·rcases List.mem_append.1 h with h | h
    ·exact h
    have:=List.mem_singleton.1 h;omega
   exact h
  exact h
theorem dep_taint {i:Nat} {t:Tk} (hk:k<i) (ht:l[i]?=some t):(i:Int) ∈ dep src l k (i - k)↔taint src (dep src l k (i - k - 1)) i t=true:=by
 obtain ⟨m,rfl⟩:∃ m,i=k+1+m:=⟨i - k - 1,o_⟩;rw [show k+1+m - k=m+1 by omega,show m+1 - 1=m by omega,dep,ht];simp only
 constructor
 ·intro h;split at h
  ·assumption
  obtain ⟨i,h1,h2,h3⟩:=dy_ _ _ h;omega
 intro h;rw [if_pos h];exact List.mem_append_right _ (List.mem_singleton.2 rfl)
theorem dep_closed {j:Nat} (hj:(j:Int) ∈ dep src l k m):∀ (i:Nat),i<l.length->i<=k+m->(i:Int) ∈ dep src l j (i - j)->j<=i->(i:Int) ∈ dep src l k m:=by
 intro i
 induction i using Nat.strongRecOn with
 | _ i ih =>
  intro A0 A3 hi A4;obtain ⟨j',e,A5,_⟩:=dy_ _ _ hj;have e':j=j':=Int.ofNat.inj e;subst e';by_cases hij:i=j
  ·subst hij;exact hj
  have A2:j<i:=by omega
  obtain ⟨t,ht⟩:∃ t,l[i]?=some t:=⟨_,ge_ A0⟩;have h1:=(dep_taint A2 ht).1 hi;refine dep_mono (m:=i - k) o_ _ ?_;rw [dep_taint o_ ht];unfold taint at h1 ⊢;rw [List.any_eq_true] at h1 ⊢;obtain ⟨c,hc,hin⟩:=h1;refine ⟨c,hc,?_⟩;rw [List.contains_iff_mem] at hin ⊢;obtain ⟨s,es,A1,A6⟩:=dy_ _ _ hin;rw [es] at hin ⊢;have hs:(s:Int) ∈ dep src l j (s - j):=by
   by_cases hsj:s=j
   ·subst hsj;exact dep_first _
   exact dep_early _ _ hin o_
  have h2:=ih s o_ o_ o_ hs A1;by_cases hsk:s=k
  ·subst hsk;exact dep_first _
  exact dep_mono (m:=s - k) o_ _ (dep_early _ _ h2 o_)
theorem dep_closed' {n:Nat} (hn:l.length=n) (hk:k<n) {j:Nat} (hj:(j:Int) ∈ dep src l k (n - (k+1))) {x:Int} (hx:x ∈ dep src l j (n - (j+1))):x ∈ dep src l k (n - (k+1)):=by
 obtain ⟨j',e,A2,A1⟩:=dy_ _ _ hj;have e':j=j':=Int.ofNat.inj e;subst e';obtain ⟨i,rfl,A0,hin⟩:=dy_ _ _ hx;refine dep_closed hj i o_ o_ ?_ A0;by_cases hij:i=j
 ·subst hij;exact dep_first _
 exact dep_early _ _ hx o_
def outN (d:List Int):Nat->Nat
 | 0=>0
 | n+1=>outN d n+(if d.contains ((n:Nat):Int) then 0 else 1)
theorem outN_app {d:List Int} {y:Nat}:∀ n,n<=y->outN (d ++ [(y:Int)]) n=outN d n
 | 0,_=>rfl
 | n+1,h=>by
  have hne:((n:Nat):Int)≠(y:Int):=by omega
  have hc:(d ++ [(y:Int)]).contains ((n:Nat):Int)=d.contains ((n:Nat):Int):=by
   rw [Bool.eq_iff_iff,List.contains_iff_mem,List.contains_iff_mem,List.mem_append,List.mem_singleton];exact ⟨fun h=>h.resolve_right hne,.inl⟩
  rw [outN,outN,outN_app n o_,hc]
theorem dep_out:∀ m,k+1+m<=l.length->(dep src l k m).length+outN (dep src l k m) (k+1+m)=k+1+m
 | 0,_=>by
  have h:∀ n,n<=k->outN [(k:Int)] n=n:=fun n hn=>by
   have:=outN_app (d:=[]) (y:=k) n hn;rw [List.nil_append] at this;rw [this];clear this hn
   induction n with
   | zero=>rfl
   | succ n ih=>rw [outN,ih];rfl
  show [(k:Int)].length+(outN [(k:Int)] k+(if [(k:Int)].contains (k:Int) then 0 else 1))=k+1
  rw [h k (l_)];simp;omega
 | m+1,h=>by
  have ih:=dep_out m o_;have A0:((k+1+m:Nat):Int) ∉ dep src l k m:=fun hx=>by
   obtain ⟨i,e,_,h3⟩:=dy_ _ _ hx;omega
  obtain ⟨t,ht⟩:∃ t,l[k+1+m]?=some t:=⟨_,ge_ o_⟩;rw [dep,ht];simp only
  rw [show k+1+(m+1)=(k+1+m)+1 by omega];split
  ·rw [outN,outN_app _ (l_),List.length_append];have hc:(dep src l k m ++ [((k+1+m:Nat):Int)]).contains ((k+1+m:Nat):Int)=true:=by rw [List.contains_iff_mem];simp
   rw [if_pos hc];simp;omega
  have hc:(dep src l k m).contains ((k+1+m:Nat):Int)=false:=by
   rw [Bool.eq_false_iff,ne_eq,List.contains_iff_mem];exact A0
  rw [outN,hc];simp;omega
theorem dep_len (m:Nat):(dep src l k m).length<=m+1:=by
 induction m with
 | zero=>simp [dep]
 | succ m ih =>
  rw [dep];split
  ·split
   ·rw [List.length_append];simp;omega
   omega
  omega
end
end Go.Proofs.YtfolidlmgfhkiaaGreat.Sq
