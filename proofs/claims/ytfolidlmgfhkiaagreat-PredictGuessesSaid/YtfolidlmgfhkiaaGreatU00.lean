/- Lemmas on functions of the program, under the conditions that each states. -/
import Derived.Test.YtfolidlmgfhkiaaGreatRows
import Derived.WalkKit
import Derived.WalkSpells
import Derived.WalkLawsBesides
import Derived.Deep.QuietTactic
import Derived.BigQuiet
import Derived.Deep.Draws
import Derived.Lib.Hide
import Derived.StillTailTactics
import Derived.Deep.AppendLies
import Derived.Deep.RegionLaw
import Derived.Laws.CopyOwn
import Derived.Lib.Overlaps
import Derived.Lib.AppendZeros
import Derived.Lib.SliceRun
import Derived.Deep.RegionLawGrows
import Derived.Lib.AppendZerosOnto
import Derived.Laws.Externs
import Derived.Deep.Cut
set_option linter.unusedVariables false
set_option linter.unusedSimpArgs false
set_option maxRecDepth 100000
set_option maxHeartbeats 4000000
namespace Go.Proofs.YtfolidlmgfhkiaaGreat
open Go.RowKit
def Hid (p:Prop):Prop:=p
theorem Hid.o {p:Prop} (h:Hid p):p:=h
theorem Hid.out {p:Prop} (h:Hid p):p:=h
abbrev OA:=Option Addr
abbrev VL:=List Value
abbrev NP:=Nat->Prop
theorem ex_ {α:Type} (x:α):∃ v,v=x:=⟨x,rfl⟩
theorem ge_ {α:Type} {l:List α} {i:Nat} (h:i<l.length):l[i]?=some l[i]:=List.getElem?_eq_getElem h
theorem gs_ {α:Type} {l:List α} {i j:Nat} {a:α}:(l.set i a)[j]?=if i=j then if i<l.length then some a else none else l[j]?:=List.getElem?_set
theorem lt_ {a b c:Nat} (h:a<b) (k:b<=c):a<c:=Nat.lt_of_lt_of_le h k
theorem me_{p:Prop}(h:p:=by (simp [intOf];omega)):p:=h
theorem za_{p:Prop}(h:p:=by (simp;omega)):p:=h
theorem zb_{p:Prop}(h:p:=by (simp [Act.eval])):p:=h
theorem zc_{p:Prop}(h:p:=by (go_num)):p:=h
theorem zd_{p:Prop}(h:p:=by (rfl)):p:=h
theorem ze_{p:Prop}(h:p:=by (repeat (first | with_reducible exact A3.o | with_reducible refine Fy.drew ?_ | refine Fy.set (i:=2) ?_ A2.o rfl rfl rfl d_ (.num _) | refine Fy.set (i:=2) ?_ A2.o rfl rfl rfl d_ (.tru _)))):p:=h
theorem zf_{p:Prop}(h:p:=by (rw [gs_,if_neg d_])):p:=h
theorem zg_{p:Prop}(h:p:=by (repeat (first | (with_reducible exact (HW.o.trans (H1.o.mono HW.o.size))) | (with_reducible refine Below.drew ?_) | (with_reducible refine below_drewN ?_ _) | (with_reducible refine Below.setCell ?_ ?_ _;rotate_left;(first | omega | (simp <;> omega))) | (with_reducible refine Below.alloc ?_ ?_ _;rotate_left;(first | omega | (simp <;> omega)))))):p:=h
theorem zh_{p:Prop}(h:p:=by (rw [ay_ _ _ _ _ _ rfl];rfl)):p:=h
theorem zi_{p:Prop}(h:p:=by (repeat (first | with_reducible exact Fx.start F7.o _ | with_reducible refine Fx.drew ?_ | refine Fx.set (i:=2) ?_ rfl rfl rfl (.num _) | refine Fx.set (i:=2) ?_ rfl rfl rfl (.tru _)))):p:=h
theorem zj_{p:Prop}(h:p:=by (first | rfl | trivial | assumption)):p:=h
theorem zk_{p:Prop}(h:p:=by (rw [hW,ai_ _ _ _ _ y_,ay_ _ _ _ _ _ y_];rfl)):p:=h
theorem zl_{p:Prop}(h:p:=by (intro e;injection e with e1 e2;omega)):p:=h
theorem zm_{p:Prop}(h:p:=by (simp)):p:=h
theorem zn_{p:Prop}(h:p:=by (have:=hx.a;omega)):p:=h
theorem zo_{p:Prop}(h:p:=by (simp [Act.eval,Act.put,cr_])):p:=h
theorem zp_{p:Prop}(h:p:=by (first | decide | omega)):p:=h
theorem zq_{p:Prop}(h:p:=by (rw [gs_,if_neg o_])):p:=h
theorem zr_{p:Prop}(h:p:=by (simp [Value.ownBlock])):p:=h
theorem zs_{p:Prop}(h:p:=by (rw [hr];rcases hT with rfl | rfl <;> simp [execOp,ho,hm,hn,go_sem])):p:=h
theorem zt_{p:Prop}(h:p:=by (rw [A6];exact ((Au.o.trans (.of_below A0.o)).setCell (p:=⟨g,k*2,none⟩) (.inr AB) _).setCell (p:=⟨g,k*2+1,none⟩) (.inr AB) _)):p:=h
theorem zu_{p:Prop}(h:p:=by (rw [A6];exact ((Kp.refl (fun q=>q=g) U3).setCell (p:=⟨g,k*2,none⟩) (.inl rfl) _).setCell (p:=⟨g,k*2+1,none⟩) (.inl rfl) _)):p:=h
theorem zv_{p:Prop}(h:p:=by (simp [Act.eval,Act.put,cutA])):p:=h
theorem zw_{p:Prop}(h:p:=by (rw [Ah.o];exact ((HT.o.up AG.o (Nat.le_refl K)).set (j:=39) rfl (AD.o.slT (fun k hk=>by have:=Ac.o k hk;omega) Aa).vt))):p:=h
theorem zx_{p:Prop}(h:p:=by (show (w:Nat)<=w;omega)):p:=h
theorem zy_{p:Prop}(h:p:=by (rw [hW,ai_ _ _ _ _ y_,ai_ _ _ _ _ y_,ay_ _ _ _ _ _ y_];rfl)):p:=h
theorem zz_{p:Prop}(h:p:=by (rw [C0.o];rfl)):p:=h
theorem z0_{p:Prop}(h:p:=by (omega)):p:=h
theorem z1_{p:Prop}(h:p:=by (rw [gs_,if_pos rfl,if_pos o_])):p:=h
theorem z2_{p:Prop}(h:p:=by (show (w:Nat)+2≠wr;omega)):p:=h
theorem z3_{p:Prop}(h:p:=by (show (w:Nat)≠w+1;omega)):p:=h
theorem z4_{p:Prop}(h:p:=by (rw [HZ.o];omega)):p:=h
theorem z5_{p:Prop}(h:p:=by (simp [Act.eval,Act.put,ci_])):p:=h
theorem z6_{p:Prop}(h:p:=by (show (w:Nat)<=w+1;omega)):p:=h
theorem z7_{p:Prop}(h:p:=by (rcases h2 with h2 | h2;(have:=Ac.o q h2;show q<V;omega);(injection h2 with h2;show q<V;omega))):p:=h
theorem z8_{p:Prop}(h:p:=by (rw [HL.o];omega)):p:=h
theorem z9_{p:Prop}(h:p:=by (rw [A6];exact (Ae.o.set hk (j:=0) rfl (.num _) _ rfl).set hk (j:=1) rfl AE.o.vt _ rfl)):p:=h
theorem ya_{p:Prop}(h:p:=by (show _<=g;omega)):p:=h
theorem yb_{p:Prop}(h:p:=by (rw [hr];simp [execOp,ho,hx,hy,hf,go_sem])):p:=h
theorem yc_{p:Prop}(h:p:=by (rw [A3,upd_same,Aa.o];exact KT.set _ _ _ ⟨d_,d_⟩)):p:=h
theorem yd_{p:Prop}(h:p:=by (simp [intOf];omega)):p:=h
theorem ye_{p:Prop}(h:p:=by (show (w:Nat)≠w+2;omega)):p:=h
theorem yf_{p:Prop}(h:p:=by (simp [genOw])):p:=h
theorem yg_{p:Prop}(h:p:=by (simp only [List.length_append];omega)):p:=h
theorem yh_{p:Prop}(h:p:=by (rw [List.size_toArray];exact fun j hj=>⟨by rw [D7.o _ AI.o j _ (ge_ (by rw [D9.o.1,<-BC.o.1];simpa using hj))];rfl,(belf AI.o DU).trans (Ej.o _)⟩)):p:=h
theorem yi_{p:Prop}(h:p:=by (rw [A0];omega)):p:=h
theorem yj_{p:Prop}(h:p:=by (rw [upd_same,gs_,if_pos rfl,if_pos (e_ HC.o).1])):p:=h
theorem yk_{p:Prop}(h:p:=by (rw [upd_same,Aa.o];exact KT.refl _)):p:=h
theorem yl_{p:Prop}(h:p:=by (rw [List.size_toArray];exact A8.o.aj_ rfl (Nat.le_of_eq A0.o.len))):p:=h
theorem ym_{p:Prop}(h:p:=by (rw [hW,ay_ _ _ _ _ _ y_];rfl)):p:=h
theorem yn_{p:Prop}(h:p:=by (rw [A0,ay_ _ _ _ _ _ t_];rfl)):p:=h
theorem yo_{p:Prop}(h:p:=by (rw [guess_out (.inr (.inl hm))];exact Sl.nil)):p:=h
theorem yp_{p:Prop}(h:p:=by (rw [List.size_toArray];exact (A7.o.box (i:=0) rfl).there (by rw [A7.o.len (i:=0) rfl];simp only [List.size_toArray];rw [A4.o.1];decide))):p:=h
theorem yq_{p:Prop}(h:p:=by (intro h;cases h)):p:=h
theorem yr_{p:Prop}(h:p:=by (rw [keyOk_at o_];exact A1)):p:=h
theorem ys_{p:Prop}(h:p:=by (simp only [keyV,bv_,h1,h2,h3,h4,decide_true,decide_false,Bool.and_true,Bool.and_false,if_true,if_false,Bool.false_eq_true];rfl)):p:=h
theorem yt_{p:Prop}(h:p:=by (show (w:Nat)<=w+2;omega)):p:=h
theorem yu_{p:Prop}(h:p:=by (rw [ds_ Trk.size,hs.len])):p:=h
theorem yv_{p:Prop}(h:p:=by (rw [A3];omega)):p:=h
theorem yw_{p:Prop}(h:p:=by (rw [Array.size_setIfInBounds];exact hz)):p:=h
theorem yx_{p:Prop}(h:p:=by (show j<38;omega)):p:=h
theorem yy_{p:Prop}(h:p:=by (rw [guess_out (.inl hm)];exact Sl.nil)):p:=h
theorem yz_{p:Prop}(h:p:=by (simp [results,results93,go_sem,e1,e2])):p:=h
theorem y0_{p:Prop}(h:p:=by (simp [results,results17,go_sem,e1,e2])):p:=h
theorem y1_{p:Prop}(h:p:=by (rw [hr];simp [execOp,ho,hx,hf,go_sem])):p:=h
theorem y2_{p:Prop}(h:p:=by (rw [hr];simp [execOp,ho,hx,e0,go_sem])):p:=h
theorem y3_{p:Prop}(h:p:=by (simp [Act.eval,Act.put];rfl)):p:=h
theorem y4_{p:Prop}(h:p:=by (rw [guess_in o_ o_ A1];exact Sl.cs_ Cl.size rfl hO.o)):p:=h
theorem y5_{p:Prop}(h:p:=by (rw [idxI,hi])):p:=h
theorem y6_{p:Prop}(h:p:=by (rw [A1.o,A2.o])):p:=h
theorem y7_{p:Prop}(h:p:=by (intro e;injection e with e1 e2;exact A0.2 q hq e1.symm)):p:=h
theorem y8_{p:Prop}(h:p:=by (rw [A5.o,HN.o];exact A2.o)):p:=h
theorem y9_{p:Prop}(h:p:=by (show (w:Nat)<=w+1+1;omega)):p:=h
theorem xa_{p:Prop}(h:p:=by (rw [A4];exact O9.o.kept (ec_ S9 (a_ (w+2)) _) (fun k hk=>by injection hk with hk;subst hk;exact A2.o))):p:=h
theorem xb_{p:Prop}(h:p:=by (rw [hl];exact guess_len _ _ _ _ _)):p:=h
theorem xc_{p:Prop}(h:p:=by (rw [c0];rfl)):p:=h
theorem xd_{p:Prop}(h:p:=by (have h:=Aq.o.box (i:=2) rfl;rw [AL.o] at h;exact h)):p:=h
theorem xe_{p:Prop}(h:p:=by (have h:=AO.o.box (i:=2) rfl;rw [AA.o] at h;exact h)):p:=h
theorem xf_{p:Prop}(h:p:=by (rw [hU];exact O4.o.up ((Kp.refl _ w4).setCell (.inl (.inr ⟨l_,by show (w:Nat)<_;omega⟩)) _) o_)):p:=h
theorem xg_{p:Prop}(h:p:=by (rw [Aj.o.1];decide)):p:=h
theorem xh_{p:Prop}(h:p:=by (rw [hW,cp_ _ _ _ _ _ y_])):p:=h
theorem xi_{p:Prop}(h:p:=by (simp [Act.eval,Act.put,eff4_eq])):p:=h
theorem xj_{p:Prop}(h:p:=by (rw [hU];exact (show Kp (fun k=>k=w) W w4 from Kp.of_below B4.o).setCell (p:=(a_ w)) (.inl rfl) _)):p:=h
theorem xk_{p:Prop}(h:p:=by (simp [Cl.cells,Value.oneCell'])):p:=h
theorem xl_{p:Prop}(h:p:=by (show (w:Nat)<w+3;omega)):p:=h
theorem xm_{p:Prop}(h:p:=by (rw [List.size_toArray,A0.o.len];exact isz_145)):p:=h
theorem xn_{p:Prop}(h:p:=by (have:=HX.o.b (show (3:Int)≠13 by decide) (show (3:Int)≠10 by decide);simp at this;omega)):p:=h
theorem xo_{p:Prop}(h:p:=by (have:=HX.o.b (show (4:Int)≠13 by decide) (show (4:Int)≠10 by decide);simp at this;omega)):p:=h
theorem xp_{p:Prop}(h:p:=by (have:=HX.o.b (show (5:Int)≠13 by decide) (show (5:Int)≠10 by decide);simp at this;omega)):p:=h
theorem xq_{p:Prop}(h:p:=by (have:=HX.o.b (show (6:Int)≠13 by decide) (show (6:Int)≠10 by decide);simp at this;omega)):p:=h
theorem xr_{p:Prop}(h:p:=by (rw [guess_out (.inr (.inr A1))];exact Sl.nil)):p:=h
theorem xs_{p:Prop}(h:p:=by (have:=HW.o.size;omega)):p:=h
theorem xt_{p:Prop}(h:p:=by (simpa using h)):p:=h
theorem xu_{p:Prop}(h:p:=by (rw [HG.o];exact own_below A9.o ((bel (b_))))):p:=h
theorem xv_{p:Prop}(h:p:=by (rw [hr];simp [execOp,ho,hx,hy,hz,hf,go_sem])):p:=h
theorem xw_{p:Prop}(h:p:=by (have:=sh_n hk22;rw [hst] at this;exact this)):p:=h
theorem xx_{p:Prop}(h:p:=by (have:=sh_v hk22;rw [hst] at this;exact this)):p:=h
theorem xy_{p:Prop}(h:p:=by (intro e;injection e with e1 e2;exact Aa e1)):p:=h
theorem xz_{p:Prop}(h:p:=by (show (w:Nat)<_;omega)):p:=h
theorem x0_{p:Prop}(h:p:=by (rw [Ah.o];exact KT.set vs 39 _ ⟨d_,d_⟩)):p:=h
theorem x1_{p:Prop}(h:p:=by (simp [World.cell?_alloc_lt])):p:=h
theorem x2_{p:Prop}(h:p:=by (rw [hr];simp [execOp,ho,hx,hy,e0,go_sem])):p:=h
theorem x3_{p:Prop}(h:p:=by (rw [e])):p:=h
theorem x4_{p:Prop}(h:p:=by (rw [hr];simp [execOp,ho,hx,go_sem];rfl)):p:=h
theorem x5_{p:Prop}(h:p:=by (simp [results,results54,go_sem,A3,A4])):p:=h
theorem x6_{p:Prop}(h:p:=by (simp [Act.eval, Act.put])):p:=h
theorem x7_{p:Prop}(h:p:=by (rw [A0];rfl)):p:=h
theorem x8_{p:Prop}(h:p:=by (show (w:Nat)+2≠w;omega)):p:=h
theorem x9_{p:Prop}(h:p:=by (rw [upd_same];exact Ae.o)):p:=h
theorem wa_{p:Prop}(h:p:=by (rw [HC.out, show Nat.min 1 (n + 1 - i) = 1 from Nat.min_eq_left (by omega)])):p:=h
theorem wb_{p:Prop}(h:p:=by (rw [A0,ai_ _ _ _ _ y_,ai_ _ _ _ _ t_,ay_ _ _ _ _ _ t_];rfl)):p:=h
theorem wc_{p:Prop}(h:p:=by (rw [E0.o];rfl)):p:=h
theorem wd_{p:Prop}(h:p:=by (rw [A7.o.len (i:=0) rfl];simp only [List.size_toArray];rw [A4.o.1];decide)):p:=h
theorem we_{p:Prop}(h:p:=by (rw [<-hk];exact hat i x hx 0 _ rfl)):p:=h
theorem wf_{p:Prop}(h:p:=by (rw [D7.o _ AI.o j _ (ge_ (by rw [D9.o.1,<-BC.o.1];simpa using hj))];rfl)):p:=h
theorem wg_{p:Prop}(h:p:=by (have:=HV.o.2.2.2;omega)):p:=h
theorem wh_{p:Prop}(h:p:=by (have:=Ah.o;omega)):p:=h
theorem wi_{p:Prop}(h:p:=by (simp [results,results60,go_sem,Aj])):p:=h
theorem wj_{p:Prop}(h:p:=by (rw [hr];simp [execOp,ho,hb,go_sem])):p:=h
theorem wk_{p:Prop}(h:p:=by (have:=A0.o;show ¬(W:Nat)<=_;omega)):p:=h
theorem wl_{p:Prop}(h:p:=by (rw [Ar.1];exact au_)):p:=h
theorem wm_{p:Prop}(h:p:=by (injection he with he;subst he;rfl)):p:=h
theorem wn_{p:Prop}(h:p:=by (rw [List.size_toArray];exact HT.o)):p:=h
theorem wo_{p:Prop}(h:p:=by (rw [List.size_toArray];exact HI.o)):p:=h
theorem wp_{p:Prop}(h:p:=by (rw [List.size_toArray];exact IT.o)):p:=h
theorem wq_{p:Prop}(h:p:=by (show _<(wz:Nat);omega)):p:=h
theorem wr_{p:Prop}(h:p:=by (rw [cO _ o_];exact c0)):p:=h
theorem ws_{p:Prop}(h:p:=by (rw [cO _ o_];exact c1)):p:=h
theorem wt_{p:Prop}(h:p:=by (rw [cO _ o_];exact c2)):p:=h
theorem wu_{p:Prop}(h:p:=by (rw [List.length_take,HL.o];omega)):p:=h
theorem wv_{p:Prop}(h:p:=by (simpa [World.setCell] using h.lt)):p:=h
theorem ww_{p:Prop}(h:p:=by (rw [hr];rcases hT with rfl | rfl <;> simp [execOp,ho,hx,hy,go_sem])):p:=h
theorem wx_{p:Prop}(h:p:=by (rw [HG.o,List.length_append,List.flatMap_append];simpa using As.o)):p:=h
theorem wy_{p:Prop}(h:p:=by (first | omega | (rw [A3];omega))):p:=h
theorem wz_{p:Prop}(h:p:=by (simpa using h2)):p:=h
theorem w0_{p:Prop}(h:p:=by (have:=Ah.o;unfold maxLen;omega)):p:=h
theorem w1_{p:Prop}(h:p:=by (simp [results,results62,go_sem,A3,A4,World.cell?_alloc_lt,A5])):p:=h
theorem w2_{p:Prop}(h:p:=by (rw [HL.o];exact hlt)):p:=h
theorem w3_{p:Prop}(h:p:=by (have:=HX.o.c (show (4:Int)≠13 by decide);simp at this;omega)):p:=h
theorem w4_{p:Prop}(h:p:=by (rw [<-Ae.o.len];exact Nat.le_trans (guessP_len _ _ _ _ _) d_)):p:=h
theorem w5_{p:Prop}(h:p:=by (rw [HV.o,HH.o];rfl)):p:=h
theorem w6_{p:Prop}(h:p:=by (generalize a.eval=r at e0 e1;simp [execOp,ho,e0,e1,go_sem])):p:=h
theorem w7_{p:Prop}(h:p:=by (rw [ho.cellAt _ A0];exact hu)):p:=h
theorem w8_{p:Prop}(h:p:=by (injection hp with hp;injection hq with hq;rw [<-hp,<-hq])):p:=h
theorem w9_{p:Prop}(h:p:=by (intro e; injection e; omega)):p:=h
theorem va_{p:Prop}(h:p:=by (obtain ⟨xs,ho,_⟩:=hO.o;exact (am_ ho hg).1)):p:=h
theorem vb_{p:Prop}(h:p:=by (rw [A0,ai_ _ _ _ _ t_,ay_ _ _ _ _ _ rfl];rfl)):p:=h
theorem vc_{p:Prop}(h:p:=by (rw [hU];exact BX.o.set 0 _)):p:=h
theorem vd_{p:Prop}(h:p:=by (show (w:Nat)+2≠w+1;omega)):p:=h
theorem ve_{p:Prop}(h:p:=by (show (w:Nat)+1+1<w+3;omega)):p:=h
theorem vf_{p:Prop}(h:p:=by (rw [c0];exact ht.go U (l_))):p:=h
theorem vg_{p:Prop}(h:p:=by (rw [A5,ai_ _ _ _ _ t_,ay_ _ _ _ _ _ t_];rfl)):p:=h
theorem vh_{p:Prop}(h:p:=by (rw [hL];exact hi)):p:=h
theorem vi_{p:Prop}(h:p:=by (trivial)):p:=h
theorem vj_{p:Prop}(h:p:=by (rw [hr];rcases ho with ho | ho <;> simp [execOp,ho])):p:=h
theorem vk_{p:Prop}(h:p:=by (rw [upd_same];exact K7.o)):p:=h
theorem vl_{p:Prop}(h:p:=by (have h:=A7.o.box (i:=2) rfl;rw [AL.o] at h;exact h)):p:=h
theorem vm_{p:Prop}(h:p:=by (rw [List.getElem?_append_left (e_ hu).1];exact hu)):p:=h
theorem vn_{p:Prop}(h:p:=by (rw [h9];exact h)):p:=h
theorem vo_{p:Prop}(h:p:=by (show _<=f;omega)):p:=h
theorem vp_{p:Prop}(h:p:=by (show _<=(w:Nat)+1;omega)):p:=h
theorem vq_{p:Prop}(h:p:=by (rw [Ay.o _ o_,C0.o];rfl)):p:=h
theorem vr_{p:Prop}(h:p:=by (have:=(Array.getElem?_eq_some_iff.1 A1).1;omega)):p:=h
theorem vs_{p:Prop}(h:p:=by (rw [List.length_drop, HXL.out, HCU.out]; omega)):p:=h
theorem vt_{p:Prop}(h:p:=by (rw [A3];decide)):p:=h
theorem vu_{p:Prop}(h:p:=by (rw [Ad.1];exact au_)):p:=h
theorem vv_{p:Prop}(h:p:=by (rw [A1.1];exact au_)):p:=h
theorem vw_{p:Prop}(h:p:=by (go_wp2_with fail;refine (bw_ b F pv A0 N0 o G0 W1 H1.o o_ _ _ _ _ _).mono ?_;rintro e W2 ⟨rfl,G2,H2,V2,_,_⟩;have U2:=q_ (U1.o.trans V2.o);clear x0 x1 x2 x3 x4 x5 x6 x7;obtain ⟨x0,x1,x2,x3,x4,x5,x6,x7⟩:=KC.o W2 G2 U2.o;go_wp2_with fail;refine end0 rfl rfl ?_;exact ⟨rfl,(RG.seq (k1:=800+2*cb) (HU.o.trans U2.o) Q0.o o_ o_ (RG.zero H2.o (Up.refl _ _))).more o_⟩)):p:=h
theorem vx_{p:Prop}(h:p:=by (go_upto_region 5 with fail;go_quiet (fail);obtain ⟨V,hV⟩:=ex_ (((W.alloc (.cells #[i_ k,i_ x.a,i_ x.b,i_ x.c,i_ x.n] 202)).alloc (.cells #[.bool sa,.bool sb,.bool sc,i_ sn] 268)).drewN nq);have HV:=q_ (Below.refl V V);have HQ:=q_ (fun w'=>KV.o V w' nq hV);clear x0 x1 x2 x3 x4 s0 s1 s2 s3 d0;obtain ⟨⟨c0,c1,c2⟩,⟨x0,x1,x2,x3,x4⟩,⟨s0,s1,s2,s3⟩,hbw2,hsl2⟩:=KV.o V V nq hV (b_);rw [<-hV];have hsl:=q_ hsl2;have hbw:=q_ hbw2;clear hV hbw2 hsl2 KV;exact cfL)):p:=h
theorem vy_{p:Prop}(h:p:=by (have BR:=q_ (F4.o.box (i:=1) rfl);have LR:=q_ (F4.o.len (i:=1) rfl);have HZ:=h_ (VTs S Y2 (N+500) comT (cr_ none 0 0)) (cz_ (ct_ _ _ _ _));have A8:=h_ ((cr_ none 0 0).length<=comT.length) (Nat.le_refl 10);go_wp2_with (with_reducible refine ab_ rfl 40 (.tmp 6) (.tmp 35) rfl (cr_ none 0 0) w_ zo_ (BR.o.aj_ LR.o A8.o) (ef_ _ _ _) HZ.o.one ?_);obtain ⟨⟨f9,_⟩,hr⟩:=ret_com F4.o (i:=1) rfl HZ.o 7;refine ce_ results40 zd_ underlying40 rfl (f9.info (i:=1) rfl dy_) (f9.box (i:=1) rfl).whole rfl ?_;exact hr)):p:=h
theorem vz_{p:Prop}(h:p:=by (refine retC results142 zd_ underlying65 rfl Ab (cs:=ls) (Aj.o.all ls (by rw [A3];rfl)).whole rfl ?_;have AJ:Below w w U4:=(AZ.o.trans (A0.o.mono o_)).trans (Af.o.below (B:=w) o_ (fun q hq h=>o_));exact ⟨⟨ls,rfl,(Ag.o.up (ah_ (w+2) ls 0 (Kp.refl _ U4) (.inl (.inr ⟨o_,o_⟩))) (Nat.le_succ K)).less (fun k _ h=>.inl h),q_ x0_⟩,(ah_ (w+2) ls 0 (show Kp (fun _=>False) w U4 from .of_below AJ) (.inr o_)).below (l_) (fun _ _ h=>h)⟩)):p:=h
theorem v0_{p:Prop}(h:p:=by (obtain ⟨F',_⟩:=FE.o.sets (i:=0) rfl (TE.o.up (Kp.refl _ _) (Nat.le_succ L));refine ce_ results137 zd_ underlying65 rfl (F'.info (i:=0) rfl au_) (F'.box (i:=0) rfl).whole rfl ?_;exact F'.ratk (i:=0) rfl (.tru _) yk_)):p:=h
theorem v1_{p:Prop}(h:p:=by (intro a w2 hI hsz A0 hout A4;go_wp2;exact A1.o a w2 hI A0 (hout 2 d_))):p:=h
theorem v2_{p:Prop}(h:p:=by (have d0:=A9.o.2.1 0 _ rfl;have d1:=A3.o.2.1 0 _ rfl;have d2:=A3.o.2.2;clear Al;go_wp2;refine retC results47 zd_ underlying35 rfl k_ (cs:=[_]) (A3.o.set 0 _).whole rfl ?_;have hb:Below w w (wr.setCell (a_ (w+1)) (.slice D u d)):=((HW.o.trans (Af.o.mono wh_)).trans (A5.o.below (B:=w) (by have:=A7.o;have:=Aq.o;omega) (fun k hk h=>by have:=A7.o;omega))).setCell z6_ _;exact ⟨⟨_,_,_,rfl,q_ ((hC.o.up ((Kp.refl _ wr).setCell (p:=(a_ (w+1))) (.inl (.inr (.inl ⟨z6_,by show (w:Nat)+1<w+2;omega⟩))) _) (show K+2*L*k<=K+2*L*N by have:=Ab.o k hk;omega)).kept (Kp.refl _ _) (fun k _ h h2=>h (.inl h2)) (l_))⟩,hb⟩)):p:=h
theorem v3_{p:Prop}(h:p:=by (go_wp2_with (with_reducible refine ab_ rfl 145 (.tmp 8) (.tmp 27) rfl eff4 w_ xi_ (BE.o.aj_ LR.o d_) isz_eff4 HO.o.one ?_);obtain ⟨⟨f2,_⟩,hr⟩:=ret_eff4 F1.o (i:=0) rfl l p;refine retC results73 zd_ underlying145 rfl (f2.info (i:=0) rfl isz_145) (f2.box (i:=0) rfl).whole rfl ?_;exact hr)):p:=h
theorem v4_{p:Prop}(h:p:=by (obtain ⟨F',_⟩:=HN.o.sets (i:=0) rfl TN.o;refine ce_ results137 zd_ underlying65 rfl (F'.info (i:=0) rfl au_) (F'.box (i:=0) rfl).whole rfl ?_;exact F'.ratk (i:=0) rfl (.tru _) x9_)):p:=h
theorem v5_{p:Prop}(h:p:=by (go_wp2_with (go_at_call 112;refine (bw_ b F pv qs N o G W H.o o_ _ _ _ _ _).mono ?_;rintro e w1 hp;obtain rfl:=hp.1;have R1:=q_ (RG.put hp);clear hp);refine end0 rfl rfl ?_;exact ⟨rfl,(RG.seq (k1:=0) HU.o (fun _ h=>h) (l_) (l_) R1.o).more o_⟩)):p:=h
theorem v6_{p:Prop}(h:p:=by (refine ⟨?_,hd,lt_ h.lt hk.size,(hc _ _ (l_)).trans h.c0,⟨l,(hc _ _ (l_)).trans h1⟩,(hc _ _ (l_)).trans h.c2,⟨f,(hc _ _ (l_)).trans h3⟩,fun j=>(hk.frozen h.lt o_).trans (h.fz j)⟩;obtain ⟨A0,S,sn,sc,a,g0,g1,g2,g3,g4,g5⟩:=h.dice;refine ⟨lt_ A0 hk.size,S,sn,sc,a,(hc _ _ o_).trans g0,(hc _ _ o_).trans g1,(hk.frozen A0 o_).trans g2,g3,g4,fun i hi=>?_⟩;obtain ⟨sb,so,x,e,h6,h7,h8,h9⟩:=g5 i hi;exact ⟨sb,so,x,e,h6,h7,h8,(hc _ _ o_).trans h9⟩)):p:=h
theorem v7_{p:Prop}(h:p:=by (go_wp2_with fail;go_quiet (fail);obtain ⟨bk,Ao,A4⟩:=H4.o.fr.tru (i:=0) rfl (j:=81) rfl rfl;have fb:=H4.o.fr.fz (i:=0) rfl;go_wp2;refine ret0 zd_ rfl ?_;obtain ⟨Y6,C6,h6,u6,q6,j6⟩:=(H4.o.call (below_drewN (b_) nq)).set81 (bk:=bk) A4 true (fun _=>rfl);exact ⟨rfl,(((P4.o.below (below_drewN (b_) nq)).trans ⟨u6,q6,j6⟩ (fun j hj=>by show j≠81;omega)).ms (h6.raise o_))⟩)):p:=h
theorem v8_{p:Prop}(h:p:=by (go_wp2_with (with_reducible refine ab_ rfl 40 (.tmp 6) (.tmp 22) rfl (cr_ none 0 0) w_ zo_ (BR.o.aj_ LR.o A7.o) (ef_ _ _ _) HZ.o.one ?_);obtain ⟨⟨f9,_⟩,hr⟩:=ret_com F1.o (i:=0) rfl HZ.o 7;refine ce_ results44 zd_ underlying40 rfl (f9.info (i:=0) rfl dy_) (f9.box (i:=0) rfl).whole rfl ?_;exact hr)):p:=h
theorem v9_{p:Prop}(h:p:=by (intro a w2 hI hsz A1 hout A9;go_wp2;exact A0.o a w2 hI A1 (hout 4 d_))):p:=h
theorem ua_{p:Prop}(h:p:=by (clear hbad;go_wp2_with (with_reducible refine ab_ rfl 65 (.tmp 10) (.tmp 31) rfl ci_ w_ z5_ (BR.o.aj_ LR.o d_) dg_ HZ.o.one ?_);obtain ⟨⟨f2,_⟩,hr⟩:=A1.o;refine ce_ results41 zd_ underlying65 rfl (f2.info (i:=0) rfl au_) (f2.box (i:=0) rfl).whole rfl ?_;exact hr)):p:=h
theorem ub_{p:Prop}(h:p:=by (rintro e W1 ⟨rfl,R1⟩;have R1:=q_ R1;go_wp2_with fail;refine ret0 rfl rfl ?_;exact ⟨rfl,(RG.seq (k1:=0) HU.o (fun _ h=>h) (l_) (l_) R1.o).more o_⟩)):p:=h
theorem uc_{p:Prop}(h:p:=by (go_wp2;go_ret;exact ⟨⟨_,rfl,q_ (fun h=>reg_of (H.o.trans h))⟩,(bel (b_))⟩)):p:=h
theorem ud_{p:Prop}(h:p:=by (obtain ⟨ab,ao,rfl,A2,A3⟩:=HS.o.at_ o_;obtain ⟨x,hx⟩:∃ x,l[i]?=some x:=⟨_,ge_ (by rw [HS.o.len];omega)⟩;have h:=A3 i x hx 0 _ rfl;simp only [Nat.mul_one,Nat.add_zero] at h;exact ⟨ab,ao,x,rfl,A2,(HL.o i x hx).1,(HL.o i x hx).2,(ai_ _ _ _ _ A2).trans h⟩)):p:=h
theorem ue_{p:Prop}(h:p:=by (obtain ⟨F',_⟩:=A7.o.sets (i:=1) rfl (TP.o.up (Kp.refl _ _) (Nat.le_add_right L 2));refine ce_ results141 zd_ underlying65 rfl (F'.info (i:=1) rfl au_) (F'.box (i:=1) rfl).whole rfl ?_;exact F'.ratk (i:=1) rfl (.tru _) (by rw [upd_same,E2.o,Ac.o];exact KT.refl _))):p:=h
theorem uf_{p:Prop}(h:p:=by (refine wpAnyH_done k_ ?_ _;go_wp2;refine end0 zd_ rfl ?_;exact ⟨rfl,P5.o.ms (H5.o.raise o_)⟩)):p:=h
theorem ug_{p:Prop}(h:p:=by (obtain ⟨f2,u2⟩:=F.sets (i:=i) hp hv;exact ⟨⟨f2,trivial⟩,⟨_,ev,rfl,(f2.whole hp).less (fun k _ hk=>f2.sub k hk)⟩,f2.below⟩)):p:=h
theorem uh_{p:Prop}(h:p:=by (injection e' with e1 e2 e3;subst e1 e2 e3;exact h')):p:=h
theorem ui_{p:Prop}(h:p:=by (have:(k+1)*e.length<=m*e.length:=Nat.mul_le_mul_right _ hk;rw [Nat.add_mul] at this;omega)):p:=h
theorem uj_{p:Prop}(h:p:=by (go_wp2;go_ret;exact ⟨⟨_,rfl⟩,((P0.o.below (Below.drew (b_))).trans p5 (fun j hj=>.inl o_)).ms (h5.raise o_)⟩)):p:=h
theorem uk_{p:Prop}(h:p:=by (refine ce_ results44 zd_ underlying40 rfl (f9.info (i:=0) rfl dy_) (f9.box (i:=0) rfl).whole rfl ?_;exact hr)):p:=h
theorem ul_{p:Prop}(h:p:=by (obtain ⟨F',_⟩:=F7.o.sets (i:=1) rfl (T7.o.up (Kp.refl _ _) o_);refine ce_ results88 zd_ underlying65 rfl (F'.info (i:=1) rfl au_) (F'.box (i:=1) rfl).whole rfl ?_;exact F'.ratk (i:=1) rfl (.tru _) vk_)):p:=h
theorem um_{p:Prop}(h:p:=by (rintro e w' ⟨⟨kd,s,f,n,op,A,m,c,B,m1,c1,C,m2,c2,rfl,h⟩,hb⟩;exact ⟨_,rfl,hb.kp.mono (fun q _ hq=>hC.zx q hq),hC.ex w w' hI hb.kp,hC.up w w' hI hb.ok hb.kp,_,_,_,_,_,_,_,_,_,_,_,_,_,_,rfl,h.o⟩)):p:=h
theorem un_{p:Prop}(h:p:=by (exact ⟨⟨A9,n9,c9,rfl,q_ ((A6.o.up ((Kp.refl _ _).setCell (p:=(a_ (w+1))) (.inl (.inr rfl)) _) (l_)).kept (Kp.refl _ _) (fun q _ h h2=>h (.inl h2)) (l_))⟩,A3.o.set A4 (Nat.le_succ _) _⟩)):p:=h
theorem uo_{p:Prop}(h:p:=by (go_wp2;refine end0 zd_ rfl ?_;exact ⟨rfl,P2.o.ms (H2.o.raise o_)⟩)):p:=h
theorem up_{p:Prop}(h:p:=by (intro a w2 hI hsz A0 hout A3;go_wp2;exact A4.o a w2 hI A0 (hout 4 d_))):p:=h
theorem uq_{p:Prop}(h:p:=by (rw [ad_ _ _ o_,ad_ _ _ o_];exact ((T5.o.go (.of_below B2.o) (l_)).go u6 (l_)).go u7 o_)):p:=h
theorem ur_{p:Prop}(h:p:=by (have h:=HS.o j u hu;exact (World.cell?_alloc_lt w _ _ (World.block_lt_of_cell? w _ h)).trans h)):p:=h
theorem us_{p:Prop}(h:p:=by (rw [ad_ _ _ A1,ad_ _ _ A1,upd_same,gs_,if_neg o_,A2.o])):p:=h
theorem ut_{p:Prop}(h:p:=by (exact ⟨⟨_,_,_,rfl,q_ ((hC.o.up ((Kp.refl _ wr).setCell (.inl (.inr (.inr rfl))) _) (Nat.le_refl K)).kept (Kp.refl _ _) (fun k _ h h2=>h (.inl h2)) (Nat.le_refl K))⟩,hb⟩)):p:=h
theorem uu_{p:Prop}(h:p:=by (simp only [Lit.wf,Bool.and_eq_true,decide_eq_true_eq] at h;omega)):p:=h
theorem uv_{p:Prop}(h:p:=by (have hl:=run_loadVar_mid (P:=P) w b o t cs d hc hu hd hi;unfold results;rw [h];simp only [Array.getD_eq_getD_getElem?] at ha;simp [ha,asAddr,Sem.run_bind,hl,Result.andThen])):p:=h
theorem uw_{p:Prop}(h:p:=by (rintro e w' ⟨⟨kd,n,s,op,A,m,c,rfl,h⟩,hb⟩;exact ⟨_,rfl,hb.kp.mono (fun q _ hq=>hC.zx q hq),hC.ex w w' hI hb.kp,hC.up w w' hI hb.ok hb.kp,_,_,_,_,_,_,_,rfl,h.o⟩)):p:=h
theorem ux_{p:Prop}(h:p:=by (go_wp2;go_ret;exact ⟨⟨_,rfl⟩,P2.o.ms (H2.o.raise o_)⟩)):p:=h
theorem uy_{p:Prop}(h:p:=by (go_wp2;go_ret;exact ⟨⟨_,_,_,rfl,q_ (O7.o.slT (fun q A0=>by have:=A2.o q A0;have:=b6.size;omega) o_)⟩,(HW.o.trans (A1.mono HW.o.size)).trans (b7.mono xs_)⟩)):p:=h
theorem uz_{p:Prop}(h:p:=by (go_wp2_with fail;go_ret;exact ⟨⟨_,_,_,rfl,q_ (hO.o.slT A1.o A3)⟩,K0.o.2.2.2.2⟩)):p:=h
theorem u0_{p:Prop}(h:p:=by (have A1:=q_ r1;have A2:=q_ r2;clear r1 r2;go_wp2;refine bodyPost_ret (v:=.tuple #[.agg #[.bool false,i_ 0],.bool false]) y0_ rfl ?_;exact ⟨y6_,(bel A3)⟩)):p:=h
theorem u1_{p:Prop}(h:p:=by (have A1:=q_ r1;have A2:=q_ r2;clear r1 r2;go_wp2;refine bodyPost_ret (v:=.tuple #[.agg #[.bool false,i_ 0],.bool false]) yz_ rfl ?_;exact ⟨y6_,(bel A3)⟩)):p:=h
theorem u2_{p:Prop}(h:p:=by (rw [List.getElem?_append_left (by rw [A0];exact hi),List.getElem?_take,if_pos hi])):p:=h
theorem u3_{p:Prop}(h:p:=by (subst this;exact ⟨fun _ v h=>h,fun _ e he=>⟨e,he,rfl,fun i s s' hs A0 X' K' v hv=>by rw [hs] at A0;injection A0 with A0;subst A0;exact hv⟩⟩)):p:=h
theorem u4_{p:Prop}(h:p:=by (refine bodyPost_ret (results_tmp2 zd_ _ _ _) rfl ?_;obtain ⟨Y2,C2,h2,p2⟩:=H2.o;exact ⟨⟨_,_,rfl⟩,(P0.o.trans p2 (fun j hj=>hj)).ms h2⟩)):p:=h
theorem u5_{p:Prop}(h:p:=by (obtain ⟨u,hu,hv⟩:=hx k j t hk hj;exact ⟨u,hu,hv.kept ((Kp.refl _ w).grown hg (fun k hk=>.inl (.inl (hr k hk).1))) (fun _ _ h=>h) (l_)⟩)):p:=h
theorem u6_{p:Prop}(h:p:=by (exact (A0.setCell t_ _).setCell t_ _)):p:=h
theorem u7_{p:Prop}(h:p:=by (go_ret;obtain ⟨Y5,C5,h5,p5⟩:=H5.o;exact ⟨⟨_,rfl⟩,((P0.o.below (Below.drew (b_))).trans p5 (fun j hj=>.inl hj)).ms (h5.raise o_)⟩)):p:=h
theorem u8_{p:Prop}(h:p:=by (obtain ⟨A2,n',s',A3,A',m',c',g',o2,e1,e2,e3,e4⟩:=hE.ex hk;exact ⟨A2,n',s',A3,A',m',c',g',o2,e1,e2,expr_g b pn _ o dE _ w' G' e3 e4⟩)):p:=h
theorem u9_{p:Prop}(h:p:=by (rw [keyV_no yr_];go_wp2_with fail;go_ret;exact ⟨none,0,0,rfl,xr_,A4.o⟩)):p:=h
theorem ta_{p:Prop}(h:p:=by (exfalso;have A0:=(Array.getElem?_eq_some_iff.1 ho).1;rw [Array.getD_eq_getD_getElem?,Array.getElem?_replicate,if_pos A0] at hl;cases hl)):p:=h
theorem tb_{p:Prop}(h:p:=by (refine end0 zd_ rfl ?_;obtain ⟨Y3,C3,h3,p3⟩:=HM.o;exact ⟨rfl,(P2.o.trans p3 (fun j hj=>by show j≠73;omega)).ms (h3.raise o_)⟩)):p:=h
theorem tc_{p:Prop}(h:p:=by (go_enter func76,ntmps76;go_wp2;go_ret;exact ⟨⟨_,rfl⟩,(bel (b_))⟩)):p:=h
theorem td_{p:Prop}(h:p:=by (go_wp2;go_ret;exact ⟨⟨_,rfl⟩,A0.o.trans (H3.o.mono A0.o.size)⟩)):p:=h
theorem te_{p:Prop}(h:p:=by (intro a w2 hI hsz A1 hout Ad;go_wp2;exact A0.o a w2 hI A1 (hout 2 d_))):p:=h
theorem tf_{p:Prop}(h:p:=by (intro a w2 hI hsz A1 hout Ae;go_wp2;exact A0.o a w2 hI A1 (hout 4 d_))):p:=h
theorem tg_{p:Prop}(h:p:=by (subst hv;go_wp2_with fail;go_ret;exact ⟨A',_,c',rfl,y4_,A8.o⟩)):p:=h
theorem th_{p:Prop}(h:p:=by (go_wp2;go_ret;exact ⟨none,0,rfl,World.ownsRow_nil _ _ _ _,b_⟩)):p:=h
theorem ti_{p:Prop}(h:p:=by (exact ⟨⟨_,_,_,rfl,q_ (O7.o.up ((Kp.refl X w7).setCell (p:=(a_ (w+1))) (.inl Ad.o) _) (l_))⟩,Ae.setCell vp_ _⟩)):p:=h
theorem tj_{p:Prop}(h:p:=by (have hc:vs[j]?=some (vs[j]'o_):=ge_ o_;rw [List.getElem?_map,List.getElem?_range hj,hc,Option.map_some,h j _ hc];rfl)):p:=h
theorem tk_{p:Prop}(h:p:=by (refine ce_ results71 zd_ underlying140 rfl (f2.info (i:=0) rfl isz_140) (f2.box (i:=0) rfl).whole rfl ?_;exact hr)):p:=h
theorem tl_{p:Prop}(h:p:=by (refine end0 zd_ rfl ?_;exact ⟨rfl,P8.o.ms (H8.o.raise o_)⟩)):p:=h
theorem tm_{p:Prop}(h:p:=by (go_ret;obtain ⟨Y5,C5,h5,p5⟩:=H5.o;exact ⟨⟨_,rfl⟩,(P3.o.trans p5 (fun j hj=>.inl hj)).ms (h5.raise o_)⟩)):p:=h
theorem tn_{p:Prop}(h:p:=by (refine ce_ results46 zd_ underlying65 rfl (f9.info (i:=1) rfl au_) (f9.box (i:=1) rfl).whole rfl ?_;exact hr)):p:=h
theorem to_{p:Prop}(h:p:=by (refine ce_ results41 zd_ underlying65 rfl (f9.info (i:=1) rfl au_) (f9.box (i:=1) rfl).whole rfl ?_;exact hr)):p:=h
theorem tp_{p:Prop}(h:p:=by (refine ce_ results39 zd_ underlying40 rfl (f9.info (i:=1) rfl dy_) (f9.box (i:=1) rfl).whole rfl ?_;exact hr)):p:=h
theorem tq_{p:Prop}(h:p:=by (refine ce_ results46 zd_ underlying65 rfl (f2.info (i:=0) rfl au_) (f2.box (i:=0) rfl).whole rfl ?_;exact hr)):p:=h
theorem tr_{p:Prop}(h:p:=by (refine ce_ results46 zd_ underlying65 rfl (f9.info (i:=0) rfl au_) (f9.box (i:=0) rfl).whole rfl ?_;exact hr)):p:=h
theorem ts_{p:Prop}(h:p:=by (go_wp2;go_ret;exact ⟨⟨n,HF.o.1,HF.o.2,⟨_,rfl,q_ (.inl rfl)⟩⟩,HW.o.trans (hb.mono HW.o.size)⟩)):p:=h
theorem tt_{p:Prop}(h:p:=by (go_wp2_with fail;go_ret;exact ⟨none,0,0,rfl,yo_,Ac.o⟩)):p:=h
theorem tu_{p:Prop}(h:p:=by (go_wp2_with fail;go_ret;exact ⟨none,0,0,rfl,yy_,Ac.o⟩)):p:=h
theorem tv_{p:Prop}(h:p:=by (go_enter func128,ntmps128;go_wp2;go_ret;exact ⟨⟨_,rfl,q_ (by rw [HK.o,HX.o])⟩,(bel (b_))⟩)):p:=h
theorem tw_{p:Prop}(h:p:=by (rw [getD_set_ne true (Ne.symm hji)] at hj;exact (ks j).st w w' _ hk he (h.ok j oj t hj A0 ht))):p:=h
theorem tx_{p:Prop}(h:p:=by (exact ⟨_,_,_,hr,A2.1,A2.2,fun g hg=>.inr (by simp [Value.ownBlock] at hg;exact hg.symm)⟩)):p:=h
theorem ty_{p:Prop}(h:p:=by (exact Sl.cs_ Trk.size Ax.o (bp_ A0 _ A9))):p:=h
theorem tz_{p:Prop}(h:p:=by (go_ret;refine ⟨w,rfl,⟨zm_,A,200,c,0,zm_,zm_,zm_,o_,o_,A1.o 200 _ o_⟩,l_,(bel (b_))⟩)):p:=h
theorem t0_{p:Prop}(h:p:=by (have:(k+1)*e.length<=n*e.length:=Nat.mul_le_mul_right _ hk;rw [Nat.add_mul] at this;omega)):p:=h
theorem t1_{p:Prop}(h:p:=by (rw [ad_ _ _ o_,ad_ _ _ o_];exact Ap.o)):p:=h
theorem t2_{p:Prop}(h:p:=by (rw [ad_ _ _ o_,ad_ _ _ o_];exact K5.o)):p:=h
theorem t3_{p:Prop}(h:p:=by (go_ret;refine ⟨w,rfl,⟨zm_,A,n,c,0,zm_,zm_,zm_,o_,o_,A1.o n _ o_⟩,l_,(bel (b_))⟩)):p:=h
theorem t4_{p:Prop}(h:p:=by (rw [if_pos hw];exact Lib.wp_append_run w s x t t ho _ _ hs hx _ _ hr (h A' c' w' h1 h2))):p:=h
theorem t5_{p:Prop}(h:p:=by (go_wp2_with fail;go_meet;exact ⟨Y7,C7,q_ (S7.o.raise o_),q_ (fun h=>absurd h Am.o)⟩)):p:=h
theorem t6_{p:Prop}(h:p:=by (exact ⟨_,_,rfl,f,u,fun k hk=>ad_ _ _ hk,upd_same _ _ _,setCells_size _ _ _ _⟩)):p:=h
theorem t7_{p:Prop}(h:p:=by (go_wp2;go_ret;exact ⟨⟨_,rfl⟩,(bel (b_))⟩)):p:=h
theorem t8_{p:Prop}(h:p:=by (exact ⟨rfl,G3,qs,N+1,A1,fun _ h=>h,o_,o_,U3⟩)):p:=h
theorem t9_{p:Prop}(h:p:=by (refine ce_ results40 zd_ underlying40 rfl IS.o A0.o.1.whole rfl ?_;exact A0.o.2.2.2)):p:=h
theorem sa_{p:Prop}(h:p:=by (go_enter func172,ntmps172;go_wp2;go_ret;exact ⟨by rw [HK.o,HX.o];rfl,(bel (b_))⟩)):p:=h
theorem sb_{p:Prop}(h:p:=by (rw [ge_ hi,ge_ vh_];simp only [Option.map_some];rw [(hr i _ _ (ge_ hi) (ge_ vh_)).1])):p:=h
theorem below_drewN {B:Nat} {a w:World} (h:Below B a w) (m:Nat):Below B a (w.drewN m):=⟨h.os,h.tape,h.output,h.size,h.block⟩
theorem bcell {W w1:World} (hb:Below W.heap.size W w1):(∀ b o,b<W.heap.size→w1.cell? ⟨b,o,none⟩=W.cell? ⟨b,o,none⟩)∧(∀ b o,b<W.heap.size→w1.frozen? ⟨b,o,none⟩=W.frozen? ⟨b,o,none⟩) :=
 ⟨fun b o h=>hb.cell (p:=⟨b,o,none⟩) h,fun b o h=>hb.frozen (p:=⟨b,o,none⟩) h⟩
theorem ak_ {B:Nat} {w w':World} {row:Option Nat} (hg:w.grownBy w' row) (hB:B≤w.heap.size) (hr:∀ k,row=some k→B≤k):Below B w w' :=
 (Below.refl B w).grown hg hB hr
structure Sl {α:Type} (w:World) (B:Nat) (sz:Nat) (cells:α→VL) (A:OA) (n:Nat) (l:List α):Prop where
 len:l.length=n
 at_:0<n→∃ ab ao,A=some ⟨ab,ao,none⟩∧ab<B∧∀ i x,l[i]?=some x→∀ j u,(cells x)[j]?=some u→w.cell? ⟨ab,ao+(i*sz+j),none⟩=some u
section
variable {α:Type} {w w':World} {B B' sz:Nat} {cells:α→VL} {A:OA} {n:Nat} {l:List α}
theorem Sl.nil:Sl w B sz cells A 0 []:=⟨rfl,fun h=>absurd h (by omega)⟩
theorem Sl.below (h:Sl w B sz cells A n l) (hb:Below B w w'):Sl w' B sz cells A n l :=
 ⟨h.len,fun hn=>by
  obtain ⟨ab,ao,e,A0,hc⟩:=h.at_ hn
  exact ⟨ab,ao,e,A0,fun i x hx j u hu=>(hb.cell (p:=⟨ab,_,none⟩) A0).trans (hc i x hx j u hu)⟩⟩
theorem Sl.mono (h:Sl w B sz cells A n l) (hB:B≤B'):Sl w B' sz cells A n l :=
 ⟨h.len,fun hn=>by
  obtain ⟨ab,ao,e,A0,hc⟩:=h.at_ hn
  exact ⟨ab,ao,e,by omega,hc⟩⟩
theorem Sl.set (h:Sl w B sz cells A n l) {p:Addr} (hp:∀ ad,A=some ad→ad.block≠p.block) (u:Value):Sl (w.setCell p u) B sz cells A n l :=
 ⟨h.len,fun hn=>by
  obtain ⟨ab,ao,e,A0,hc⟩:=h.at_ hn
  refine ⟨ab,ao,e,A0,fun i x hx j u hu=>(World.cell?_setCell_other w p _ _ (fun e2=>hp _ e (by rw [e2]))).trans (hc i x hx j u hu)⟩⟩
theorem Sl.up (h:Sl w w.heap.size sz cells A n l) (hb:Below w.heap.size w w'):Sl w' w'.heap.size sz cells A n l:=(h.below hb).mono hb.size
theorem flat_get (hsz:∀ x,(cells x).length=sz):∀ (l:List α) (i:Nat) (x:α),l[i]?=some x→∀ j u,(cells x)[j]?=some u→(l.flatMap cells)[i*sz+j]?=some u
 | [],i,x,h,_,_,_=>by simp at h
 | y :: l,0,x,h,j,u,hu=>by
  simp at h;subst h
  have hj:j<(cells y).length:=(List.getElem?_eq_some_iff.1 hu).1
  rw [Nat.zero_mul,Nat.zero_add,List.flatMap_cons,List.getElem?_append_left hj];exact hu
 | y :: l,i+1,x,h,j,u,hu=>by
  have ih:=flat_get hsz l i x (by simpa using h) j u hu
  have e:(i+1)*sz+j=(cells y).length+(i*sz+j):=by rw [hsz,Nat.add_mul];omega
  rw [e,List.flatMap_cons,List.getElem?_append_right (by omega)]
  simpa using ih
theorem ds_ (hsz:∀ x,(cells x).length=sz):∀ (l:List α),(l.flatMap cells).length=l.length*sz
 | []=>by simp
 | y :: l=>by rw [List.flatMap_cons,List.length_append,ds_ hsz l,hsz,List.length_cons,Nat.add_mul];omega
theorem flat_take (hsz:∀ x,(cells x).length=sz):∀ (l:List α) (k:Nat),(l.flatMap cells).take (k*sz)=(l.take k).flatMap cells
 | [],k=>by simp
 | y :: l,0=>by simp
 | y :: l,k+1=>by
  have e:(k+1)*sz=(cells y).length+k*sz:=by rw [hsz,Nat.add_mul];omega
  rw [List.flatMap_cons,e,List.take_length_add_append,flat_take hsz l k,List.take_succ_cons,List.flatMap_cons]
theorem flat_drop (hsz:∀ x,(cells x).length=sz):∀ (l:List α) (k:Nat),(l.flatMap cells).drop (k*sz)=(l.drop k).flatMap cells
 | [],k=>by simp
 | y :: l,0=>by simp
 | y :: l,k+1=>by
  have e:(k+1)*sz=(cells y).length+k*sz:=by rw [hsz,Nat.add_mul];omega
  rw [List.flatMap_cons,e,List.drop_length_add_append,flat_drop hsz l k,List.drop_succ_cons]
theorem Sl.cs_ {base:Nat} {e:TypeId} {c:Nat} (hsz:∀ x,(cells x).length=sz) (hl:l.length=n) (h:w.ownsRow base e sz (.slice A n c) n (l.flatMap cells)):Sl w w.heap.size sz cells A n l:=by
 refine ⟨hl,fun hn=>?_⟩
 obtain ⟨g,cap,hv,_,A0⟩:=h.form hn
 have hA:A=some ⟨g,0,none⟩:=by injection hv
 subst hA
 refine ⟨g,0,rfl,A0,fun i x hx j u hu=>?_⟩
 have:=h.cells (g:=g) rfl (i*sz+j) u (flat_get hsz l i x hx j u hu)
 unfold Addr.add at this
 split at this
 ·rename_i h0;rw [h0];exact this
 ·simpa using this
end
/- copy: elements of whatever size, into a row that is known whole. -/
theorem run_copy_N {P:Program} (w:World) (dT sT ty elem:TypeId) (sz:Nat) (g o dLen dCap:Nat) (a:Addr) (sLen sCap:Nat) (cur:Array Value) (t:TypeId) (cs:VL)
  (hu:P.underlying dT=some (.slice elem)) (hs:(P.info? elem).map (·.size)=some sz)
  (hg:w.heap[g]?=some (.cells cur t (0,0))) (hn:cs.length=Nat.min sLen dLen*sz)
  (hsrc:∀ j v,cs[j]?=some v→w.cell? (a.add j)=some v) (hfit:o+cs.length≤cur.size) (h1:∀ v ∈ cs,v.oneCell'=true) :
  (Builtin.copy_ #[dT,sT] ty #[.slice (some ⟨g,o,none⟩) dLen dCap,.slice (some a) sLen sCap]).run P w =
   .ok (goInt (Nat.min sLen dLen)) (w.setRow g (cur.toList.take o ++ cs ++ cur.toList.drop (o+cs.length)).toArray):=by
 have hl:=run_loadCells_list (P:=P) w a cs hsrc
 have A0:=run_storeCells_at P g o t cs 0 cur w hg (by simpa using hfit) h1
 cases hq:P.info? elem with
 | none=>simp [hq] at hs
 | some i =>
  have hi:i.size=sz:=by simpa [hq] using hs
  simp [Builtin.copy_,run_underlying hu,Builtin.lenOf,Builtin.firstCells,sizeOf,typeInfo,hq,hi,<-hn,hl,A0]
theorem run_copy_N' {P:Program} (w:World) (dT sT ty elem:TypeId) (sz:Nat) (g o dLen dCap:Nat) (a:Addr) (sLen sCap:Nat) (cur:VL) (t:TypeId) (cs:VL)
  (hu:P.underlying dT=some (.slice elem)) (hs:(P.info? elem).map (·.size)=some sz)
  (hg:w.heap[g]?=some (.cells cur.toArray t (0,0))) (hn:cs.length=Nat.min sLen dLen*sz)
  (hsrc:∀ j v,cs[j]?=some v→w.cell? (a.add j)=some v) (hfit:o+cs.length≤cur.length) (h1:∀ v ∈ cs,v.oneCell'=true) :
  ∃ w',(Builtin.copy_ #[dT,sT] ty #[.slice (some ⟨g,o,none⟩) dLen dCap,.slice (some a) sLen sCap]).run P w=.ok (goInt (Nat.min sLen dLen)) w' ∧
   Hid (w'.heap[g]?=some (.cells (splice cur o cs).toArray t (0,0)))∧w.grownBy w' (some g):=by
 refine ⟨_,run_copy_N w dT sT ty elem sz g o dLen dCap a sLen sCap cur.toArray t cs hu hs hg hn hsrc (by simpa using hfit) h1,?_,⟨rfl,rfl,rfl,by simp [World.setRow],fun k hk hne=>setRow_other w g k _ (fun e=>hne (by rw [e]))⟩⟩
 show _=_
 simpa [splice] using setRow_heap w g _ _ t _ hg
theorem wpList_copy_N {P:Program} {w:World} {ops:Array Oper} {rest:List Oper} {o:Oper} {a:Act} {Q:Exit→Act→World→Prop} (hgd:o.guard=none) (d s:Operand) (dT sT:TypeId)
  (ho:o.op=.call { callee:=.builtin .copy,args:=#[d,s],argTypes:=#[dT,sT] }) (elem:TypeId) (sz:Nat) (hu:P.underlying dT=some (.slice elem)) (hsz:(P.info? elem).map (·.size)=some sz)
  (g off dLen dCap:Nat) (ad:Addr) (sLen sCap:Nat) (hd:a.eval d=.slice (some ⟨g,off,none⟩) dLen dCap) (hs:a.eval s=.slice (some ad) sLen sCap)
  (cur:VL) (t:TypeId) (hg:w.heap[g]?=some (.cells cur.toArray t (0,0))) (cs:VL) (hn:cs.length=Nat.min sLen dLen*sz)
  (hsrc:∀ j v,cs[j]?=some v→w.cell? (ad.add j)=some v) (hfit:off+cs.length≤cur.length) (h1:∀ v ∈ cs,v.oneCell'=true)
  (h:∀ w',Hid (w'.heap[g]?=some (.cells (splice cur off cs).toArray t (0,0)))→w.grownBy w' (some g)→wpList P ops Q rest (a.put o.dst (goInt (Nat.min sLen dLen))) w') :
  wpList P ops Q (o :: rest) a w:=by
 refine wpList_plain hgd fun K hK=>?_
 obtain ⟨w',A0,h2,h3⟩:=run_copy_N' (P:=P) w dT sT o.type elem sz g off dLen dCap ad sLen sCap cur t cs hu hsz hg hn hsrc hfit h1
 unfold Oper.wp
 simp [execOp,ho,resolve,invoke,builtin,hd,hs,A0,Result.andThen]
 exact hK _ _ (h w' h2 h3)
theorem step_copy_N {P:Program} {ops:Array Oper} {o:Oper} {a:Act} {w:World} {K:Act→World→Prop} {Q:Exit→Act→World→Prop} {E:Prop} (hgd:o.guard=none) (d s:Operand) (dT sT:TypeId)
  (ho:o.op=.call { callee:=.builtin .copy,args:=#[d,s],argTypes:=#[dT,sT] }) (elem:TypeId) (sz:Nat) (hu:P.underlying dT=some (.slice elem)) (hsz:(P.info? elem).map (·.size)=some sz)
  (g off dLen dCap:Nat) (ad:Addr) (sLen sCap:Nat) (hd:a.eval d=.slice (some ⟨g,off,none⟩) dLen dCap) (hs:a.eval s=.slice (some ad) sLen sCap)
  (cur:VL) (t:TypeId) (hg:w.heap[g]?=some (.cells cur.toArray t (0,0))) (cs:VL) (hn:cs.length=Nat.min sLen dLen*sz)
  (hsrc:∀ j v,cs[j]?=some v→w.cell? (ad.add j)=some v) (hfit:off+cs.length≤cur.length) (h1:∀ v ∈ cs,v.oneCell'=true)
  (h:∀ w',Hid (w'.heap[g]?=some (.cells (splice cur off cs).toArray t (0,0)))→w.grownBy w' (some g)→K (a.put o.dst (goInt (Nat.min sLen dLen))) w') :
  if Region.wanted o (yielded ops a.tmps)=true then Oper.wp P o a w K Q else E:=by
 have hw:Region.wanted o (yielded ops a.tmps)=true:=by simp [Region.wanted,hgd]
 rw [if_pos hw]
 obtain ⟨w',A0,h2,h3⟩:=run_copy_N' (P:=P) w dT sT o.type elem sz g off dLen dCap ad sLen sCap cur t cs hu hsz hg hn hsrc hfit h1
 unfold Oper.wp
 simp [execOp,ho,resolve,invoke,builtin,hd,hs,A0,Result.andThen]
 exact h w' h2 h3
theorem splice_shift {α:Type} (cur xs cs:List α) (a s n:Nat) (hx:cur.take n=xs) (hcs:cs.length=s) (han:a≤n) (hl:n+s≤cur.length) :
  (splice (splice cur (a+s) (xs.drop a)) a cs).take (n+s)=xs.take a ++ cs ++ xs.drop a:=by
 have A0:xs.length=n:=by rw [<-hx,List.length_take];omega
 have h1:(splice cur (a+s) (xs.drop a)).take a=xs.take a:=by
  unfold splice
  rw [List.take_append_of_le_length (by rw [List.length_take];omega),List.take_take,Nat.min_eq_left (by omega),<-hx,List.take_take,Nat.min_eq_left han]
 have h2:(splice cur (a+s) (xs.drop a)).drop (a+s)=xs.drop a ++ cur.drop (a+s+(xs.drop a).length):=by
  unfold splice
  rw [List.drop_append,List.drop_eq_nil_of_le (by rw [List.length_take];omega),List.nil_append,List.length_take,Nat.min_eq_left (by omega),Nat.sub_self,List.drop_zero]
 have h3:splice (splice cur (a+s) (xs.drop a)) a cs=(xs.take a ++ cs ++ xs.drop a) ++ cur.drop (a+s+(xs.drop a).length):=by
  conv=>lhs;unfold splice
  rw [hcs,show splice cur (a+s) (xs.drop a)=splice cur (a+s) (xs.drop a) from rfl] at *
  rw [show (List.take (a+s) cur ++ (xs.drop a ++ cur.drop (a+s+(xs.drop a).length)))=splice cur (a+s) (xs.drop a) from rfl,h1,h2]
  simp
 rw [h3,List.take_append_of_le_length (by simp only [List.length_append,List.length_take,List.length_drop,hcs,A0];omega),List.take_of_length_le (by simp only [List.length_append,List.length_take,List.length_drop,hcs,A0];omega)]
theorem splice_grow {α:Type} (row xs cs:List α) (a s n:Nat) (hr:row.take a=xs.take a) (hcs:cs.length=s) (hxl:xs.length=n) (han:a≤n) (_hl:n+s≤row.length) :
  (splice (splice row a cs) (a+s) (xs.drop a)).take (n+s)=xs.take a ++ cs ++ xs.drop a:=by
 have h1:(splice row a cs).take (a+s)=xs.take a ++ cs:=by
  unfold splice
  rw [hr,<-List.append_assoc,List.take_append_of_le_length (by simp only [List.length_append,List.length_take,hcs,hxl];omega),List.take_of_length_le (by simp only [List.length_append,List.length_take,hcs,hxl];omega)]
 have h2:splice (splice row a cs) (a+s) (xs.drop a)=(splice row a cs).take (a+s) ++ (xs.drop a ++ (splice row a cs).drop (a+s+(xs.drop a).length)):=rfl
 rw [h2,h1,<-List.append_assoc,List.take_append_of_le_length (by simp only [List.length_append,List.length_take,List.length_drop,hcs,hxl];omega),List.take_of_length_le (by simp only [List.length_append,List.length_take,List.length_drop,hcs,hxl];omega)]
theorem ay_ (w:World) (c:Array Value) (t:TypeId) (b i:Nat) (h:b=w.heap.size):(w.alloc (.cells c t)).cell? ⟨b,i,none⟩=c[i]?:=by subst h;simp
theorem ai_ (w:World) (o:Obj) (b i:Nat) (h:b<w.heap.size):(w.alloc o).cell? ⟨b,i,none⟩=w.cell? ⟨b,i,none⟩:=World.cell?_alloc_lt w o _ h
theorem cp_ (w:World) (c:Array Value) (t:TypeId) (b i:Nat) (h:b=w.heap.size):(w.alloc (.cells c t)).frozen? ⟨b,i,none⟩=false:=by subst h;simp
theorem cq_ (w:World) (o:Obj) (b i:Nat) (h:b<w.heap.size):(w.alloc o).frozen? ⟨b,i,none⟩=w.frozen? ⟨b,i,none⟩:=World.frozen?_alloc_old w o _ (Nat.ne_of_lt h)
theorem cg_ {w w':World} (h:Below w.heap.size w w') (row:Option Nat):w.grownBy w' row:=⟨h.os,h.tape,h.output,h.size,fun k hk _=>h.block k hk⟩
theorem own_below {w w':World} {base:Nat} {e:TypeId} {size:Nat} {v:Value} {n:Nat} {xs:VL} (h:w.ownsRow base e size v n xs) (hb:Below w.heap.size w w'):w'.ownsRow base e size v n xs:=h.kept (cg_ hb none) (by cases v.ownBlock <;> simp)
theorem own_form {w:World} {base:Nat} {e:TypeId} {size:Nat} {v:Value} {n:Nat} {xs:VL} (h:w.ownsRow base e size v n xs) (hn:0<n):∃ A' c',v=.slice A' n c':=by
 obtain ⟨g,cap,rfl,_⟩:=h.form hn
 exact ⟨_,_,rfl⟩
theorem own_ne_type {w:World} {base:Nat} {e t:TypeId} {size:Nat} {v:Value} {n g:Nat} {xs:VL} {cs:Array Value} {fr:Nat × Nat} (h:w.ownsRow base e size v n xs) (hg:w.heap[g]?=some (.cells cs t fr)) (hne:e≠t):v.ownBlock≠some g:=by
 rcases h.2 with ⟨rfl,_⟩ | ⟨g',cap,cur,rfl,_,hh,_⟩
 ·intro e;cases e
 ·intro he
  injection he with he
  simp only at he
  subst he
  rw [hg] at hh
  injection hh with hh
  injection hh with _ ht
  exact hne ht.symm
theorem bp_ {w:World} {base:Nat} {e:TypeId} {size:Nat} {v:Value} {n:Nat} {xs:VL} (h:w.ownsRow base e size v n xs) {a:Addr} (u:Value) (hne:v.ownBlock≠some a.block):(w.setCell a u).ownsRow base e size v n xs :=
 h.kept (row:=some a.block) ⟨rfl,rfl,rfl,by simp,fun k hk A0=>Below.heap_setCell w a u k (fun e=>A0 (by rw [e]))⟩ (.inr hne)
theorem bg_ (w:World) (a b:Addr) (u:Value) (h:a≠b):(w.setCell a u).cell? b=w.cell? b:=World.cell?_setCell_other w a b u h
/- append, whatever the source: nil, empty or not. -/
theorem cw_ {P:Program} (w:World) (t ty e:TypeId) (i:TypeInfo) (ht:P.underlying t=some (.slice e)) (hi:P.info? e=some i)
  (ao:OA) (n cap:Nat) (hnc:n≤cap) (xo:OA) (c:Nat) :
  (Builtin.append_ #[t,t] ty #[.slice ao n cap,.slice xo 0 c]).run P w=.ok (.slice ao n cap) w:=by
 have hl:∀ (x:Addr),(loadCells x 0).run P w=.ok #[] w:=fun x=>by simpa using run_loadCells_list (P:=P) w x [] (by simp)
 cases ao <;> cases xo <;> simp [Builtin.append_,run_underlying ht,sizeOf,typeInfo,hi,Builtin.lenOf,Builtin.firstCells,hnc,storeCells,hl]
theorem de_ {P:Program} (w:World) (base:Nat) (t ty e:TypeId) (i:TypeInfo) (z:Value) (size bytes:Nat) (ht:P.underlying t=some (.slice e)) (hi:P.info? e=some i) (hz:i.zero=some z)
  (hsize:i.size=size) (hby:i.bytes=bytes) (hzs:z.cells.size=size) (hsz:0<size)
  (v:Value) (n:Nat) (xs:VL) (hown:w.ownsRow base e size v n xs)
  (xo:OA) (m c:Nat) (news:VL) (hxo:xo=none→m=0) (hl:news.length=m*size) (hnews:∀ ad,xo=some ad→∀ (j:Nat) (u:Value),news[j]?=some u→w.cell? (ad.add j)=some u) (h1:∀ u ∈ news,u.oneCell'=true)
  (h63:n+m≤maxLen) (hbytes:(n+m)*bytes≤140737488355328) (hbase:base≤w.heap.size) :
  ∃ A' c' w',(Builtin.append_ #[t,t] ty #[v,.slice xo m c]).run P w=.ok (.slice A' (n+m) c') w'∧w'.ownsRow base e size (.slice A' (n+m) c') (n+m) (xs ++ news)∧w.grownBy w' v.ownBlock ∧
   (∀ g,(Value.slice A' (n+m) c').ownBlock=some g→v.ownBlock=some g\/g=w.heap.size):=by
 rcases Nat.eq_zero_or_pos m with rfl | hm
 ·obtain rfl:news=[]:=List.eq_nil_of_length_eq_zero (by simpa using hl)
  rw [List.append_nil,Nat.add_zero]
  rcases hown.2 with ⟨rfl,rfl⟩ | ⟨g,cap,cur,rfl,hbg,hg,hnc,hcm,hcs,htake⟩
  ·exact ⟨none,0,w,cw_ w t ty e i ht hi none 0 0 (Nat.le_refl _) xo c,hown,World.grownBy.refl _ _,fun g hg=>.inl hg⟩
  ·exact ⟨_,_,w,cw_ w t ty e i ht hi _ n cap hnc xo c,hown,World.grownBy.refl _ _,fun g hg=>.inl hg⟩
 ·cases xo with
  | none=>exact absurd (hxo rfl) (by omega)
  | some ad =>
   obtain ⟨g,cap,w',hr,ho,hg,A0,_⟩:=run_append_lies (P:=P) (w:=w) t ty base e i z size bytes ht hi hz hsize hby hzs hsz v n xs hown ad m c news hl (hnews ad rfl) h1 hm h63 hbytes hbase _ rfl
   exact ⟨_,_,w',hr,ho,hg,fun k hk=>by injection hk with hk;subst hk;exact A0⟩
theorem av_ {P:Program} {w:World} {ops:Array Oper} {rest:List Oper} {o:Oper} {a:Act} {Q:Exit→Act→World→Prop} (hgd:o.guard=none) (s x:Operand) (t:TypeId)
  (ho:o.op=.call { callee:=.builtin .append,args:=#[s,x],argTypes:=#[t,t] })
  (base:Nat) (e:TypeId) (i:TypeInfo) (z:Value) (size bytes:Nat) (ht:P.underlying t=some (.slice e)) (hi:P.info? e=some i) (hz:i.zero=some z)
  (hsize:i.size=size) (hby:i.bytes=bytes) (hzs:z.cells.size=size) (hsz:0<size)
  (v:Value) (n:Nat) (xs:VL) (hs:a.eval s=v) (hown:w.ownsRow base e size v n xs)
  (xo:OA) (m c:Nat) (news:VL) (hx:a.eval x=.slice xo m c) (hxo:xo=none→m=0) (hl:news.length=m*size) (hnews:∀ ad,xo=some ad→∀ (j:Nat) (u:Value),news[j]?=some u→w.cell? (ad.add j)=some u) (h1:∀ u ∈ news,u.oneCell'=true)
  (h63:n+m≤maxLen) (hbytes:(n+m)*bytes≤140737488355328) (hbase:base≤w.heap.size)
  (h:∀ A' c' w',w'.ownsRow base e size (.slice A' (n+m) c') (n+m) (xs ++ news)→w.grownBy w' v.ownBlock→(∀ g,(Value.slice A' (n+m) c').ownBlock=some g→v.ownBlock=some g\/g=w.heap.size)→wpList P ops Q rest (a.put o.dst (.slice A' (n+m) c')) w'):wpList P ops Q (o :: rest) a w:=by
 obtain ⟨A',c',w',hr,h1,h2,h3⟩:=de_ (P:=P) w base t o.type e i z size bytes ht hi hz hsize hby hzs hsz v n xs hown xo m c news hxo hl hnews h1 h63 hbytes hbase
 exact Lib.wpList_append_run w hgd s x t t ho _ _ hs hx _ _ hr (h A' c' w' h1 h2 h3)
theorem cv_ {P:Program} {ops:Array Oper} {o:Oper} {a:Act} {w:World} {K:Act→World→Prop} {Q:Exit→Act→World→Prop} {E:Prop} (hgd:o.guard=none) (s x:Operand) (t:TypeId)
  (ho:o.op=.call { callee:=.builtin .append,args:=#[s,x],argTypes:=#[t,t] })
  (base:Nat) (e:TypeId) (i:TypeInfo) (z:Value) (size bytes:Nat) (ht:P.underlying t=some (.slice e)) (hi:P.info? e=some i) (hz:i.zero=some z)
  (hsize:i.size=size) (hby:i.bytes=bytes) (hzs:z.cells.size=size) (hsz:0<size)
  (v:Value) (n:Nat) (xs:VL) (hs:a.eval s=v) (hown:w.ownsRow base e size v n xs)
  (xo:OA) (m c:Nat) (news:VL) (hx:a.eval x=.slice xo m c) (hxo:xo=none→m=0) (hl:news.length=m*size) (hnews:∀ ad,xo=some ad→∀ (j:Nat) (u:Value),news[j]?=some u→w.cell? (ad.add j)=some u) (h1:∀ u ∈ news,u.oneCell'=true)
  (h63:n+m≤maxLen) (hbytes:(n+m)*bytes≤140737488355328) (hbase:base≤w.heap.size)
  (h:∀ A' c' w',w'.ownsRow base e size (.slice A' (n+m) c') (n+m) (xs ++ news)→w.grownBy w' v.ownBlock→(∀ g,(Value.slice A' (n+m) c').ownBlock=some g→v.ownBlock=some g\/g=w.heap.size)→K (a.put o.dst (.slice A' (n+m) c')) w') :
  if Region.wanted o (yielded ops a.tmps)=true then Oper.wp P o a w K Q else E:=by
 have hw:Region.wanted o (yielded ops a.tmps)=true:=by simp [Region.wanted,hgd]
 rw [if_pos hw]
 obtain ⟨A',c',w',hr,h1,h2,h3⟩:=de_ (P:=P) w base t o.type e i z size bytes ht hi hz hsize hby hzs hsz v n xs hown xo m c news hxo hl hnews h1 h63 hbytes hbase
 exact Lib.wp_append_run w s x t t ho _ _ hs hx _ _ hr (h A' c' w' h1 h2 h3)
theorem di_ {P:Program} {ops:Array Oper} {o:Oper} {a:Act} {w:World} {K:Act→World→Prop} {Q:Exit→Act→World→Prop} {E:Prop} (hgd:o.guard=none) (s x:Operand) (t:TypeId)
  (ho:o.op=.call { callee:=.builtin .append,args:=#[s,x],argTypes:=#[t,t] }) (e:TypeId) (i:TypeInfo) (ht:P.underlying t=some (.slice e)) (hi:P.info? e=some i)
  (ao:OA) (n cap:Nat) (hnc:n≤cap) (hs:a.eval s=.slice ao n cap) (xo:OA) (c:Nat) (hx:a.eval x=.slice xo 0 c) (hK:K (a.put o.dst (.slice ao n cap)) w) :
  if Region.wanted o (yielded ops a.tmps)=true then Oper.wp P o a w K Q else E:=by
 have hw:Region.wanted o (yielded ops a.tmps)=true:=by simp [Region.wanted,hgd]
 rw [if_pos hw]
 exact Lib.wp_append_run w s x t t ho _ _ hs hx _ _ (cw_ w t o.type e i ht hi ao n cap hnc xo c) hK
theorem own_src {w:World} {base:Nat} {e:TypeId} {size:Nat} {A:OA} {n c:Nat} {xs:VL} (h:w.ownsRow base e size (.slice A n c) n xs) :
  (A=none→n=0)∧∀ ad,A=some ad→∀ (j:Nat) (u:Value),xs[j]?=some u→w.cell? (ad.add j)=some u:=by
 refine ⟨fun hA=>?_,fun ad hA j u hu=>?_⟩
 ·subst hA
  rcases h.2 with ⟨h',h0⟩ | ⟨g,cap,cur,h',_⟩
  ·exact h0
  ·cases h'
 ·subst hA
  rcases h.2 with ⟨h',_⟩ | ⟨g,cap,cur,h',_⟩
  ·cases h'
  ·injection h' with h1 _ _
   injection h1 with h1
   subst h1
   exact h.cells (g:=g) rfl j u hu
theorem bx_ {W w1:World} {row:Option Nat} (hg:W.grownBy w1 row):(∀ b o,b<W.heap.size→some b≠row→w1.cell? ⟨b,o,none⟩=W.cell? ⟨b,o,none⟩)∧(∀ b o,b<W.heap.size→some b≠row→w1.frozen? ⟨b,o,none⟩=W.frozen? ⟨b,o,none⟩) :=
 ⟨fun b _o h hne=>World.cell?_of_block (w:=W) (hg.block b h hne),fun b _o h hne=>World.frozen?_of_block (w:=W) (hg.block b h hne)⟩
theorem am_ {w:World} {base:Nat} {e:TypeId} {size:Nat} {A:OA} {n c:Nat} {xs:VL} (h:w.ownsRow base e size (.slice A n c) n xs) {k:Nat} (hk:(Value.slice A n c).ownBlock=some k):base≤k∧k<w.heap.size:=h.lt k hk
end Go.Proofs.YtfolidlmgfhkiaaGreat
namespace Go.Proofs.YtfolidlmgfhkiaaGreat
structure Val where
 ref:Bool
 n:Int
 deriving DecidableEq
def Val.cells (x:Val):VL:=[.bool x.ref,.int .i64 x.n]
theorem Val.size (x:Val):x.cells.length=2:=rfl
theorem val_one (l:List Val):∀ u ∈ l.flatMap Val.cells,u.oneCell'=true:=by
 intro u hu
 obtain ⟨t,_,ht⟩:=List.mem_flatMap.1 hu
 simp [Val.cells] at ht
 rcases ht with rfl | rfl <;> rfl
structure Ob where
 id:Int
 A:OA
 n:Nat
 c:Nat
 s:List Val
def Ob.cells (x:Ob):VL:=[.int .i64 x.id,.slice x.A x.n x.c]
theorem Ob.size (x:Ob):x.cells.length=2:=rfl
theorem ob_one (l:List Ob):∀ u ∈ l.flatMap Ob.cells,u.oneCell'=true:=by
 intro u hu
 obtain ⟨t,_,ht⟩:=List.mem_flatMap.1 hu
 simp [Ob.cells] at ht
 rcases ht with rfl | rfl <;> rfl
structure PO where
 id:Int
 s:List Val
 deriving DecidableEq
def Ob.po (x:Ob):PO:=⟨x.id,x.s⟩
def idx (id:Int):List PO→Option Nat
 | []=>none
 | x :: l=>if x.id=id then some 0 else (idx id l).map (·+1)
def idxI (id:Int) (l:List PO):Int:=match idx id l with | some i=>i | none=>-1
theorem idx_none {id:Int}:∀ {l:List PO},(∀ (i:Nat) (x:PO),l[i]?=some x→x.id≠id)→idx id l=none
 | [],_=>rfl
 | x :: l,h=>by simp [idx,h 0 x rfl,idx_none (l:=l) (fun i y hy=>h (i+1) y (by simpa using hy))]
theorem idx_some {id:Int}:∀ {l:List PO} {i:Nat} {x:PO},l[i]?=some x→x.id=id→(∀ (j:Nat) (y:PO),j<i→l[j]?=some y→y.id≠id)→idx id l=some i
 | [],i,x,h,_,_=>by simp at h
 | y :: l,0,x,h,hx,_=>by simp at h;subst h;simp [idx,hx]
 | y :: l,i+1,x,h,hx,hb=>by
  have h0:=hb 0 y z0_ rfl
  have ih:=idx_some (l:=l) (i:=i) xt_ hx (fun j z hj hz=>hb (j+1) z z0_ (by simpa using hz))
  simp [idx,h0,ih]
theorem ek_ (id:Int):∀ l:List PO,(idx id l=none∧∀ (i:Nat) (x:PO),l[i]?=some x→x.id≠id)\/∃ (i:Nat) (x:PO),idx id l=some i∧l[i]?=some x∧x.id=id∧∀ (j:Nat) (y:PO),j<i→l[j]?=some y→y.id≠id
 | []=>.inl ⟨rfl,zm_⟩
 | x :: l=>by
  by_cases h:x.id=id
  ·exact .inr ⟨0,x,by simp [idx,h],rfl,h,fun j y hj=>absurd hj z0_⟩
  ·rcases ek_ id l with ⟨h1,h2⟩ | ⟨i,y,h1,h2,h3,h4⟩
   ·refine .inl ⟨by simp [idx,h,h1],fun i y hy=>?_⟩
    match i,hy with
    | 0,hy=>simp at hy;subst hy;exact h
    | i+1,hy=>exact h2 i y (by simpa using hy)
   ·refine .inr ⟨i+1,y,by simp [idx,h,h1],wz_,h3,fun j z hj hz=>?_⟩
    match j,hz with
    | 0,hz=>simp at hz;subst hz;exact h
    | j+1,hz=>exact h4 j z z0_ (by simpa using hz)
def readV (id f:Int) (l:List PO):Option Val:=match idx id l with | some i=>(match l[i]? with | some x=>if 0≤f then x.s[f.toNat]? else none | none=>none) | none=>none
def readB (id f:Int) (l:List PO):Bool:=(readV id f l).isSome
def readD (id f:Int) (l:List PO):Val:=(readV id f l).getD ⟨false,0⟩
theorem read_no {id f:Int} {l:List PO} (h:idx id l=none):readB id f l=false∧readD id f l=⟨false,0⟩:=by simp [readB,readD,readV,h]
theorem read_neg {id f:Int} {l:List PO} (h:f<0):readB id f l=false∧readD id f l=⟨false,0⟩:=by
 have:¬0≤f:=by omega
 have e:readV id f l=none:=by
  unfold readV;split
  ·split
   ·rw [if_neg this]
   ·rfl
  ·rfl
 simp [readB,readD,e]
theorem read_far {id f:Int} {l:List PO} {i:Nat} {x:PO} (h:idx id l=some i) (hx:l[i]?=some x) (hf:(x.s.length:Int)≤f):readB id f l=false∧readD id f l=⟨false,0⟩:=by
 have e:readV id f l=none:=by
  simp only [readV,h,hx]
  rw [if_pos z0_,List.getElem?_eq_none z0_]
 simp [readB,readD,e]
theorem read_at {id:Int} {j:Nat} {l:List PO} {i:Nat} {x:PO} {v:Val} (h:idx id l=some i) (hx:l[i]?=some x) (hv:x.s[j]?=some v):readB id (j:Int) l=true∧readD id (j:Int) l=v:=by
 have e:readV id (j:Int) l=some v:=by
  simp only [readV,h,hx]
  rw [if_pos z0_,Int.toNat_natCast,hv]
 simp [readB,readD,e]
def gt (id:Int):List PO→Nat
 | []=>0
 | x :: l=>if id<x.id then 0 else gt id l+1
def putO (o:PO) (l:List PO):List PO:=match idx o.id l with | some i=>l.set i o | none=>l.take (gt o.id l) ++ [o] ++ l.drop (gt o.id l)
def writeO (i j:Nat) (v:Val) (l:List PO):List PO:=l.modify i fun x=>⟨x.id,x.s.set j v⟩
def OkAt (l:List PO) (i:Nat) (x:PO):Prop:=0<x.id∧(0<i→∀ y,l[i - 1]?=some y→y.id<x.id)
def ValidP (l:List PO):Prop:=∀ (i:Nat) (x:PO),l[i]?=some x→OkAt l i x
open Classical in
noncomputable def validB (l:List PO):Bool:=decide (ValidP l)
open Classical in
open Classical in
theorem po_at {l:List Ob} {i:Nat} {x:Ob} (h:l[i]?=some x):(l.map Ob.po)[i]?=some x.po:=by rw [List.getElem?_map,h];rfl
theorem po_at' {l:List Ob} {i:Nat} {y:PO} (h:(l.map Ob.po)[i]?=some y):∃ x,l[i]?=some x∧y=x.po:=by
 rw [List.getElem?_map] at h
 cases hx:l[i]? with
 | none=>rw [hx] at h;cases h
 | some x=>rw [hx] at h;injection h with h;exact ⟨x,rfl,h.symm⟩
theorem readB_true {id f:Int} {l:List PO} (h:readB id f l=true):∃ (i j:Nat) (x:PO),idx id l=some i∧l[i]?=some x∧f=(j:Int)∧j<x.s.length:=by
 unfold readB readV at h
 split at h
 ·rename_i i hi
  split at h
  ·rename_i x hx
   split at h
   ·rename_i h0
    refine ⟨i,f.toNat,x,hi,hx,z0_,?_⟩
    cases hs:x.s[f.toNat]? with
    | none=>rw [hs] at h;cases h
    | some v=>exact (List.getElem?_eq_some_iff.1 hs).1
   ·cases h
  ·cases h
 ·cases h
def wroteL (id f:Int) (v:Val) (l:List PO):List PO:=if readB id f l=true then (match idx id l with | some i=>writeO i f.toNat v l | none=>[]) else []
theorem wrote_no {id f:Int} {v:Val} {l:List PO} (h:readB id f l=false):wroteL id f v l=[]:=by simp [wroteL,h]
theorem wrote_at {id:Int} {i j:Nat} {v:Val} {l:List PO} (h:readB id (j:Int) l=true) (hi:idx id l=some i):wroteL id (j:Int) v l=writeO i j v l:=by simp [wroteL,h,hi]
theorem writeO_set {i j:Nat} {v:Val}:∀ {l:List PO} {x:PO},l[i]?=some x→writeO i j v l=l.set i ⟨x.id,x.s.set j v⟩:=by
 intro l x hx
 unfold writeO
 apply List.ext_getElem?
 intro k
 rw [List.getElem?_modify,gs_]
 by_cases hik:i=k
 ·subst hik
  rw [hx,if_pos rfl,if_pos (List.getElem?_eq_some_iff.1 hx).1]
  simp
 ·rw [if_neg hik];simp [hik]
end Go.Proofs.YtfolidlmgfhkiaaGreat
namespace Go.Proofs.YtfolidlmgfhkiaaGreat
open Go.RowKit
theorem sl_at {α:Type} {w:World} {B sz n g ao:Nat} {cells:α→VL} {l:List α} (h:Sl w B sz cells (some ⟨g,ao,none⟩) n l) {i:Nat} {x:α} (hx:l[i]?=some x) {j:Nat} {u:Value} (hu:(cells x)[j]?=some u):w.cell? ⟨g,ao+(i*sz+j),none⟩=some u:=by
 have hn:0<n:=by have:=(List.getElem?_eq_some_iff.1 hx).1;rw [h.len] at this;omega
 obtain ⟨ab,A0,e,_,hc⟩:=h.at_ hn
 injection e with e
 injection e with e1 e2
 subst e1 e2
 exact hc i x hx j u hu
theorem slot_ne {sz i k j j':Nat} (hj:j<sz) (hj':j'<sz) (h:i≠k\/j≠j'):i*sz+j≠k*sz+j':=by
 intro e
 have h1:(i*sz+j) / sz=i:=by rw [Nat.mul_comm,Nat.mul_add_div (by omega),Nat.div_eq_of_lt hj];omega
 have h2:(k*sz+j') / sz=k:=by rw [Nat.mul_comm,Nat.mul_add_div (by omega),Nat.div_eq_of_lt hj'];omega
 rw [e,h2] at h1
 subst h1
 rcases h with h | h
 ·exact h rfl
 ·omega
theorem Sl.lt {α:Type} {w:World} {B sz n g ao:Nat} {cells:α→VL} {l:List α} (h:Sl w B sz cells (some ⟨g,ao,none⟩) n l) (hn:0<n):g<B:=by
 obtain ⟨ab,A1,e,A0,_⟩:=h.at_ hn
 injection e with e
 injection e with e1 e2
 subst e1
 exact A0
theorem dv_ {w:World} {base:Nat} {e:TypeId} {size:Nat} {A:OA} {n c:Nat} {xs:VL} (h:w.ownsRow base e size (.slice A n c) n xs) (hn:0<n):∃ g,A=some ⟨g,0,none⟩∧base≤g∧g<w.heap.size∧∀ j,w.frozen? ⟨g,j,none⟩=false:=by
 obtain ⟨g,cap,hv,hb,A0⟩:=h.form hn
 injection hv with hv
 subst hv
 exact ⟨g,rfl,hb,A0,fun j=>h.frozenAt j⟩
theorem heap_new (w:World) (o:Obj):(w.alloc o).heap[w.heap.size]?=some o:=by show (w.heap.push o)[w.heap.size]?=some o;simp
theorem belc {B:Nat} {w w':World} (h:Below B w w') {b o:Nat} (hb:b<B):w'.cell? ⟨b,o,none⟩=w.cell? ⟨b,o,none⟩:=h.cell (p:=⟨b,o,none⟩) hb
theorem belf {B:Nat} {w w':World} (h:Below B w w') {b o:Nat} (hb:b<B):w'.frozen? ⟨b,o,none⟩=w.frozen? ⟨b,o,none⟩:=h.frozen (p:=⟨b,o,none⟩) hb
theorem dp_ {w:World} {base:Nat} {e:TypeId} {size:Nat} {A:OA} {n c:Nat} {xs:VL} (h:w.ownsRow base e size (.slice A n c) n xs):n≤c∧(A=none→c=0):=by
 rcases h.2 with ⟨h',h0⟩ | ⟨g,cap,cur,h',_,_,hnc,_⟩
 ·injection h' with h1 h2 h3
  subst h1 h3
  exact ⟨by omega,fun _=>rfl⟩
 ·injection h' with h1 h2 h3
  subst h1 h3
  exact ⟨hnc,fun h=>by cases h⟩
theorem own_cap {w:World} {base:Nat} {e:TypeId} {size:Nat} {A:OA} {n c:Nat} {xs:VL} (h:w.ownsRow base e size (.slice A n c) n xs):c≤9223372036854775807:=by
 rcases h.2 with ⟨h',h0⟩ | ⟨g,cap,cur,h',_,_,_,hcm,_⟩
 ·injection h' with h1 h2 h3
  subst h3
  omega
 ·injection h' with h1 h2 h3
  subst h3
  unfold maxLen at hcm;omega
theorem own_lo {w:World} {base:Nat} {e:TypeId} {size:Nat} {A:OA} {n c:Nat} {xs:VL} (h:w.ownsRow base e size (.slice A n c) n xs) {b:Nat} (hb:b≤base):∀ ad,A=some ad→b≤ad.block:=by
 intro ad hA
 subst hA
 rcases h.2 with ⟨h',_⟩ | ⟨g,cap,cur,h',hbg,_⟩
 ·cases h'
 ·injection h' with h1 _ _
  injection h1 with h1
  subst h1
  show b≤g
  omega
theorem Sl.src {α:Type} {w:World} {B sz n:Nat} {cells:α→VL} {A:OA} {l:List α} (h:Sl w B sz cells A n l) (hsz:∀ x,(cells x).length=sz):(A=none→n=0)∧(∀ ad,A=some ad→∀ (j:Nat) (u:Value),(l.flatMap cells)[j]?=some u→w.cell? (ad.add j)=some u):=by
 refine ⟨fun hA=>?_,fun ad hA j u hu=>?_⟩
 ·rcases Nat.eq_zero_or_pos n with h0 | h0
  ·exact h0
  ·obtain ⟨ab,ao,e,_⟩:=h.at_ h0
   rw [hA] at e;cases e
 ·have hj:j<(l.flatMap cells).length:=(List.getElem?_eq_some_iff.1 hu).1
  rw [ds_ hsz] at hj
  have hp:0<l.length:=by rcases Nat.eq_zero_or_pos l.length with h0 | h0;(rw [h0] at hj;omega);exact h0
  have hz:0<sz:=by rcases Nat.eq_zero_or_pos sz with h0 | h0;(rw [h0] at hj;omega);exact h0
  obtain ⟨ab,ao,e,_,A1⟩:=h.at_ (by rw [<-h.len];exact hp)
  rw [hA] at e
  injection e with e
  subst e
  rw [Addr.add_lit]
  have hd:j / sz<l.length:=Nat.div_lt_of_lt_mul (by rw [Nat.mul_comm];exact hj)
  have hx:=ge_ hd
  have hm:j % sz<(cells l[j / sz]).length:=by rw [hsz];exact Nat.mod_lt _ hz
  have h2:=flat_get hsz l (j / sz) _ hx (j % sz) _ (ge_ hm)
  have A0:j / sz*sz+j % sz=j:=Nat.div_add_mod' j sz
  rw [A0,hu] at h2
  injection h2 with h2
  have h3:=A1 _ _ hx (j % sz) _ (ge_ hm)
  rw [A0,<-h2] at h3
  exact h3
def Room (A:OA) (n c:Nat):Prop:=n≤c∧(A=none∧c=0\/∃ g o,A=some ⟨g,o,none⟩)
theorem own_mono {w:World} {base base':Nat} {e:TypeId} {size:Nat} {v:Value} {n:Nat} {xs:VL} (h:w.ownsRow base e size v n xs) (hb:base'≤base):w.ownsRow base' e size v n xs:=by
 refine ⟨h.1,?_⟩
 rcases h.2 with h' | ⟨g,cap,cur,hv,hg,hr⟩
 ·exact .inl h'
 ·exact .inr ⟨g,cap,cur,hv,by omega,hr⟩
theorem flat_set2 {α:Type} {cells:α→VL} (hsz:∀ x,(cells x).length=2) (x':α) (u v:Value) (hx:cells x'=[u,v]):∀ (l:List α) (k:Nat),k<l.length→((l.flatMap cells).set (k*2) u).set (k*2+1) v=(l.set k x').flatMap cells
 | [],k,h=>by simp at h
 | y :: l,0,_=>by
  have hy:=hsz y
  match hc:cells y,hy with
  | [a,b],_=>simp [List.flatMap_cons,hc,hx]
 | y :: l,k+1,h=>by
  have hy:=hsz y
  have ih:=flat_set2 hsz x' u v hx l k (by simpa using h)
  match hc:cells y,hy with
  | [a,b],_ =>
   simp only [List.flatMap_cons,hc,List.set_cons_succ]
   rw [<-ih,show (k+1)*2=k*2+1+1 from by omega,show k*2+1+1+1=k*2+1+1+1 from rfl]
   simp
theorem own_put2 {α:Type} {cells:α→VL} (hsz:∀ x,(cells x).length=2) {w:World} {base:Nat} {e:TypeId} {g n c:Nat} {l:List α} (h:w.ownsRow base e 2 (.slice (some ⟨g,0,none⟩) n c) n (l.flatMap cells)) (hl:l.length=n) {k:Nat} (hk:k<n) (x':α) (u v:Value) (hx:cells x'=[u,v]) :
  ((w.setCell ⟨g,k*2,none⟩ u).setCell ⟨g,k*2+1,none⟩ v).ownsRow base e 2 (.slice (some ⟨g,0,none⟩) n c) n ((l.set k x').flatMap cells):=by
 rw [<-flat_set2 hsz x' u v hx l k (by omega)]
 exact ((h.stored _ _).1.stored _ _).1
theorem Sl.apart {α:Type} {w w':World} {B sz n:Nat} {cells:α→VL} {A:OA} {l:List α} {row:Option Nat} (h:Sl w B sz cells A n l) (hB:B≤w.heap.size) (hg:w.grownBy w' row) (hne:0<n→∀ ad,A=some ad→some ad.block≠row):Sl w' B sz cells A n l :=
 ⟨h.len,fun hn=>by
  obtain ⟨ab,ao,e,A0,hc⟩:=h.at_ hn
  exact ⟨ab,ao,e,A0,fun i x hx j u hu=>((bx_ hg).1 ab _ (by omega) (hne hn _ e)).trans (hc i x hx j u hu)⟩⟩
theorem ec_ (w:World) (p:Addr) (u:Value):w.grownBy (w.setCell p u) (some p.block) :=
 ⟨rfl,rfl,rfl,by simp,fun k _ A0=>Below.heap_setCell w p u k (fun e=>A0 (by rw [e]))⟩
theorem grown2 (w:World) (g i j:Nat) (u v:Value):w.grownBy ((w.setCell ⟨g,i,none⟩ u).setCell ⟨g,j,none⟩ v) (some g):=(ec_ w ⟨g,i,none⟩ u).trans (ec_ _ ⟨g,j,none⟩ v)
theorem own_eq {w:World} {base:Nat} {e:TypeId} {size a b c:Nat} {A:OA} {xs:VL} (h:a=b) (ho:w.ownsRow base e size (.slice A a c) a xs):w.ownsRow base e size (.slice A b c) b xs:=by subst h;exact ho
theorem Sl.put2 {α:Type} {w:World} {B n g ao k:Nat} {cells:α→VL} {l:List α} {u v:Value} (hsz:∀ x,(cells x).length=2) (h:Sl w B 2 cells (some ⟨g,ao,none⟩) n l) (hk:k<n) (x':α) (hx:cells x'=[u,v]) (p q:Addr) (hp:p=⟨g,ao+k*2,none⟩) (hq:q=⟨g,ao+k*2+1,none⟩) :
  Sl ((w.setCell p u).setCell q v) B 2 cells (some ⟨g,ao,none⟩) n (l.set k x'):=by
 subst hp hq
 obtain ⟨t,ht⟩:∃ t,l[k]?=some t:=⟨_,ge_ (by rw [h.len];exact hk)⟩
 refine ⟨by rw [List.length_set];exact h.len,fun hn=>⟨g,ao,rfl,h.lt hn,fun i x A0 j s hs=>?_⟩⟩
 rw [gs_] at A0
 have hj:j<2:=by have:=(List.getElem?_eq_some_iff.1 hs).1;rwa [hsz] at this
 by_cases hik:k=i
 ·subst hik
  rw [if_pos rfl,if_pos (by rw [h.len];exact hk)] at A0
  injection A0 with A0
  subst A0
  rw [hx] at hs
  have e0:w.cell? ⟨g,ao+k*2,none⟩=some ((cells t)[0]'(by rw [hsz];omega)):=sl_at h ht (j:=0) (ge_ _)
  have e1:w.cell? ⟨g,ao+k*2+1,none⟩=some ((cells t)[1]'(by rw [hsz];omega)):=sl_at h ht (j:=1) (ge_ _)
  match j,hj,hs with
  | 0,_,hs =>
   injection hs with hs;subst hs
   rw [Nat.add_zero,bg_ _ _ _ _ (by intro e;injection e with e1 e2;omega)]
   exact World.cell?_setCell_same _ _ _ e0
  | 1,_,hs =>
   injection hs with hs;subst hs
   exact World.cell?_setCell_same _ _ _ ((bg_ _ _ _ _ (by intro e;injection e with e1 e2;omega)).trans e1)
 ·rw [if_neg hik] at A0
  rw [bg_ _ _ _ _ (by intro e;injection e with e1 e2;omega),bg_ _ _ _ _ (by intro e;injection e with e1 e2;omega)]
  exact sl_at h A0 hs
namespace InsTk5
theorem infoE : (Tryz.prog.info? 122).map (fun i => (i.zero, i.size, i.bytes)) = some (some (.agg #[.int .i64 0, .bool false, .int .i64 0, .int .i64 0, .int .i64 0]), 5, 40) := by kernel_rfl
theorem sizeE : (Tryz.prog.info? 122).map (·.size) = some 5 := by kernel_rfl
theorem end_nil (cs : VL) (base vb : Nat) (w : World) (hbase : base ≤ w.heap.size) (hcs : cs.length = 5) (hvb : w.heap[vb]? = some (.cells cs.toArray 122 (0, 0))) (h1 : ∀ u ∈ cs, u.oneCell' = true) :
    Calls Tryz.prog 101 #[.slice none 0 0, .int .i64 0, .slice (some ⟨vb, 0, none⟩) 1 1] w fun e w' => ∃ v', e = .returned v' ∧ w'.ownsRow base 122 5 v' 1 cs ∧ w.grownBy w' none := by
  obtain ⟨i0, hi, hz0, hz1, hz2⟩ := info_parts infoE
  have HC := Lib.hid hcs
  have HV := Lib.hid hvb
  clear hcs hvb
  go_enter Tryz.func101, Tryz.ntmps101
  go_wp2_with (at_builtin; refine wpList_append_own _ rfl _ _ 57 rfl base 122 i0 _ 5 40 Tryz.underlying57 hi hz0 hz1 hz2 rfl (by decide) _ _ _ rfl (World.ownsRow_nil _ _ _ _) ⟨vb, 0, none⟩ 1 1 cs rfl (by rw [HC.out]) (World.news_of_block HV.out) h1 (by unfold maxLen; omega) z0_ hbase ?_; intro v' w1 hown1 hgrow1 _)
  go_ret
  exact ⟨_, rfl, hown1, hgrow1⟩
theorem end_some (g n cap : Nat) (xs cs : VL) (base vb : Nat) (w : World) (hown : w.ownsRow base 122 5 (.slice (some ⟨g, 0, none⟩) n cap) n xs) (_hnc : n ≤ cap) (_hcm : cap ≤ 9223372036854775807) (hn : n ≤ 1000000) (hbase : base ≤ w.heap.size)
    (hcs : cs.length = 5) (hvb : w.heap[vb]? = some (.cells cs.toArray 122 (0, 0))) (h1 : ∀ u ∈ cs, u.oneCell' = true) :
    Calls Tryz.prog 101 #[.slice (some ⟨g, 0, none⟩) n cap, .int .i64 n, .slice (some ⟨vb, 0, none⟩) 1 1] w fun e w' => ∃ v', e = .returned v' ∧ w'.ownsRow base 122 5 v' (n + 1) (xs ++ cs) ∧ w.grownBy w' (some g) := by
  obtain ⟨i0, hi, hz0, hz1, hz2⟩ := info_parts infoE
  have HC := Lib.hid hcs
  have HV := Lib.hid hvb
  clear hcs hvb
  by_cases hcap : cap = n
  all_goals
    go_enter Tryz.func101, Tryz.ntmps101
    go_wp2_with (at_builtin; refine wpList_append_own _ rfl _ _ 57 rfl base 122 i0 _ 5 40 Tryz.underlying57 hi hz0 hz1 hz2 rfl (by decide) _ _ _ rfl hown ⟨vb, 0, none⟩ 1 1 cs rfl (by rw [HC.out]) (World.news_of_block HV.out) h1 (by unfold maxLen; omega) z0_ hbase ?_; intro v' w1 hown1 hgrow1 _)
    go_ret
    exact ⟨_, rfl, hown1, hgrow1⟩
theorem shift (g n cap i : Nat) (cur xs cs : VL) (vb : Nat) (w : World) (hg : w.heap[g]? = some (.cells cur.toArray 122 (0, 0))) (hcur : cur.length = cap * 5) (hx : cur.take (n * 5) = xs)
    (hi : i < n) (hroom : n + 1 ≤ cap) (hcm : cap ≤ 9223372036854775807) (hn : n ≤ 1000000)
    (hcs : cs.length = 5) (hvb : w.heap[vb]? = some (.cells cs.toArray 122 (0, 0))) (hne : vb ≠ g) (h1 : ∀ u ∈ cs, u.oneCell' = true) (h1x : ∀ u ∈ xs, u.oneCell' = true) :
    Calls Tryz.prog 101 #[.slice (some ⟨g, 0, none⟩) n cap, .int .i64 i, .slice (some ⟨vb, 0, none⟩) 1 1] w fun e w' =>
      e = .returned (.slice (some ⟨g, 0, none⟩) (n + 1) cap) ∧ Hid (w'.heap[g]? = some (.cells (splice (splice cur ((i + 1) * 5) (xs.drop (i * 5))) (i * 5) cs).toArray 122 (0, 0))) ∧ w.grownBy w' (some g) := by
  have hxl : xs.length = n * 5 := by rw [<- hx, List.length_take, hcur]; omega
  have hvs : w.shape? vb = some (122, 5) := by simp [World.shape?, hvb, hcs]
  have hgs : w.shape? g = some (122, cap * 5) := by simp [World.shape?, hg, hcur]
  have hfa : w.frozen? ⟨vb, 0, none⟩ = false := by simp [World.frozen?, hvb]
  have hfe : w.frozen? ⟨vb, 5, none⟩ = false := by simp [World.frozen?, hvb]
  have hov : ∀ lb cb, (callFunc 154 #[.slice (some ⟨vb, 0, none⟩) 1 1, .slice (some ⟨g, (i + 1) * 5, none⟩) lb cb]).run Tryz.prog w = .ok (.value (.bool false)) w := fun lb cb => by
    rw [run_callFunc_extern Tryz.func154 (by kernel_rfl) (by kernel_rfl) (by kernel_rfl) (e := Extern.SlicesOverlaps.overlaps #[57, 57] #[4]) (by kernel_rfl),
      Lib.run_overlaps_apart w 57 4 122 Tryz.underlying57 5 (fun w => by kernel_rfl) ⟨vb, 0, none⟩ ⟨g, (i + 1) * 5, none⟩ 1 1 lb cb hne _ _ _ _ hvs hgs z0_ hfa hfe]
    rfl
  have HG := Lib.hid hg
  have HC := Lib.hid hcs
  have HV := Lib.hid hvb
  have HX := Lib.hid hx
  have HXL := Lib.hid hxl
  have HCU := Lib.hid hcur
  have hb2 : ¬ (cap = i + 1) := by omega
  have hb4 : ¬ (cap = i) := by omega
  clear hg hcs hvb hvs hgs hx hxl hcur
  go_enter Tryz.func101, Tryz.ntmps101
  go_wp2_with (simp only [hov])
  have hsrc1 : ∀ (j : Nat) (u : Value), (xs.drop (i * 5))[j]? = some u → w.drew.cell? ((⟨g, i * 5, none⟩ : Addr).add j) = some u := fun j u hu => by
    rw [Addr.add_lit]
    show w.cell? _ = _
    rw [cell_of_row w g _ _ _ _ HG.out]
    rw [<- HX.out, List.getElem?_drop, List.getElem?_take] at hu
    split at hu
    · simpa using hu
    · cases hu
  have hw1 : IntKind.i64.wrap ((i : Int) + 1) = (i : Int) + 1 := IntWalk.i64_in _ z0_
  have hb1 : (0 : Int) ≤ (i : Int) + 1 := by omega
  have hin : i ≤ n := by omega
  have htn : ((i : Int) + 1).toNat = i + 1 := by omega
  have hb3 : (i : Int) ≤ (n : Int) + 1 := by omega
  go_region_law (refine step_copy_N rfl _ _ 57 57 rfl 122 5 Tryz.underlying57 sizeE g ((i + 1) * 5) (n - i) (cap - (i + 1)) ⟨g, i * 5, none⟩ (n + 1 - i) (cap - i) x6_ x6_ cur 122 HG.out (xs.drop (i * 5)) (by rw [List.length_drop, HXL.out, show Nat.min (n + 1 - i) (n - i) = n - i from Nat.min_eq_right z0_]; omega) hsrc1 vs_ (fun u hu => h1x u (List.mem_of_mem_drop hu)) ?_; intro w1 hg1 hgr1)
  clear hw1 hb1 htn hb3
  have hlen : (splice cur ((i + 1) * 5) (xs.drop (i * 5))).length = cap * 5 := by rw [length_splice _ _ _ vs_, HCU.out]
  have hvb1 : w1.heap[vb]? = some (.cells cs.toArray 122 (0, 0)) := (hgr1.block vb (by have h := HV.out; rcases Nat.lt_or_ge vb w.heap.size with h' | h'; exact h'; rw [Array.getElem?_eq_none h'] at h; cases h) (by simpa using hne)).trans HV.out
  have HL := Lib.hid hlen
  have HW := Lib.hid hvb1
  clear hlen hvb1 hsrc1
  go_wp2_with (with_reducible refine wpList_copy_N rfl _ _ 57 57 rfl 122 5 Tryz.underlying57 sizeE g (i * 5) (n + 1 - i) (cap - i) ⟨vb, 0, none⟩ 1 1 rfl rfl (splice cur ((i + 1) * 5) (xs.drop (i * 5))) 122 hg1.out cs wa_ (fun j u hu => by rw [Addr.add_lit, cell_of_row _ _ _ _ _ _ HW.out]; simpa using hu) (by rw [HC.out, HL.out]; omega) h1 ?_; intro w2 hg2 hgr2)
  go_ret
  exact ⟨rfl, hg2, ⟨hgr2.os.trans hgr1.os, hgr2.tape.trans hgr1.tape, hgr2.output.trans hgr1.output, Nat.le_trans hgr1.size hgr2.size, fun k hk hkr => (hgr2.block k (lt_ hk hgr1.size) hkr).trans (hgr1.block k hk hkr)⟩⟩
theorem grow (g n cap i : Nat) (cur xs cs : VL) (vb : Nat) (w : World) (hg : w.heap[g]? = some (.cells cur.toArray 122 (0, 0))) (hcur : cur.length = cap * 5) (hx : cur.take (n * 5) = xs)
    (hi : i < n) (hroom : cap < n + 1) (hnc : n ≤ cap) (hn : n ≤ 1000000)
    (hcs : cs.length = 5) (hvb : w.heap[vb]? = some (.cells cs.toArray 122 (0, 0))) (h1 : ∀ u ∈ cs, u.oneCell' = true) (h1x : ∀ u ∈ xs, u.oneCell' = true) :
    Calls Tryz.prog 101 #[.slice (some ⟨g, 0, none⟩) n cap, .int .i64 i, .slice (some ⟨vb, 0, none⟩) 1 1] w fun e w' =>
      ∃ (G : Nat) (row : VL), n + 1 ≤ G ∧ G ≤ 9223372036854775807 ∧ row.length = G * 5 ∧ row.take (i * 5) = xs.take (i * 5) ∧ e = .returned (.slice (some ⟨w.heap.size, 0, none⟩) (n + 1) G) ∧
        Hid (w'.heap[w.heap.size]? = some (.cells (splice (splice row (i * 5) cs) ((i + 1) * 5) (xs.drop (i * 5))).toArray 122 (0, 0))) ∧ w.grownBy w' none := by
  obtain ⟨i0, hi0, hz0, hzs, hzb⟩ := info_parts infoE
  have hxl : xs.length = n * 5 := by rw [<- hx, List.length_take, hcur, Nat.min_eq_left (Nat.mul_le_mul_right _ hnc)]
  have hgw : g < w.heap.size := by rcases Nat.lt_or_ge g w.heap.size with h' | h'; exact h'; rw [Array.getElem?_eq_none h'] at hg; cases hg
  have hvw : vb < w.heap.size := by rcases Nat.lt_or_ge vb w.heap.size with h' | h'; exact h'; rw [Array.getElem?_eq_none h'] at hvb; cases hvb
  have hxc : ∀ (j : Nat) (u : Value), xs[j]? = some u → w.cell? ⟨g, j, none⟩ = some u := fun j u hu => by
    rw [cell_of_row w g _ _ _ _ hg]
    rw [<- hx, List.getElem?_take] at hu
    split at hu
    · simpa using hu
    · cases hu
  have hkk : (n : Int) + 1 - (i : Int) = ((n + 1 - i : Nat) : Int) := by omega
  have hik : i + (n + 1 - i) = n + 1 := by omega
  have hold : (Builtin.firstCells i0.size i (.slice (some ⟨g, 0, none⟩) i cap)).run Tryz.prog w.drew = .ok (xs.take (i * 5)).toArray w.drew := by
    rw [hzs]
    exact run_firstCells_some w.drew 5 i ⟨g, 0, none⟩ i cap (xs.take (i * 5)) (by rw [List.length_take, hxl]; omega) (fun j v hj => by
      rw [Addr.add_lit]
      rw [List.getElem?_take] at hj
      split at hj
      · rw [Nat.zero_add]; exact hxc j v hj
      · cases hj)
  have hrz : ∀ ty, (Builtin.append_ #[57, 3] ty #[.slice (some ⟨g, 0, none⟩) i cap, .int .i64 ((n : Int) + 1 - (i : Int))]).run Tryz.prog w =
      .ok (.slice (some ⟨w.heap.size, 0, none⟩) (n + 1) (grownCap w (n + 1) cap 122)) (w.drew.alloc (.cells ((xs.take (i * 5)).toArray ++ Builtin.zeroCells (.agg #[.int .i64 0, .bool false, .int .i64 0, .int .i64 0, .int .i64 0] : Value).cells (n + 1 - i) ++ Builtin.zeroCells (.agg #[.int .i64 0, .bool false, .int .i64 0, .int .i64 0, .int .i64 0] : Value).cells (grownCap w (n + 1) cap 122 - (n + 1))) 122)) := fun ty => by
    have h := Lib.run_append_grow_zeros w 57 3 ty 122 i0 _ .i64 .i64 Tryz.underlying57 Tryz.underlying3 hi0 hz0 (some ⟨g, 0, none⟩) i cap (xs.take (i * 5)) hold (n + 1 - i) z0_ z0_ z0_ z0_ (by rw [hzb]; omega) (by rw [hzb, hik]; exact growslice_fits hroom z0_)
    rw [hik] at h
    rw [hkk]
    exact h
  obtain ⟨G, hG⟩ : ∃ G, G = grownCap w (n + 1) cap 122 := ⟨_, rfl⟩
  obtain ⟨row, hrow⟩ : ∃ row : VL, row = ((xs.take (i * 5)).toArray ++ Builtin.zeroCells (.agg #[.int .i64 0, .bool false, .int .i64 0, .int .i64 0, .int .i64 0] : Value).cells (n + 1 - i) ++ Builtin.zeroCells (.agg #[.int .i64 0, .bool false, .int .i64 0, .int .i64 0, .int .i64 0] : Value).cells (G - (n + 1))).toList := ⟨_, rfl⟩
  have hGn : n + 1 ≤ G := by rw [hG]; exact grownCap_ge w _ _ _
  have hG63 : G ≤ 9223372036854775807 := by
    have := grownCap_le_maxLen w (n + 1) cap 122 (by unfold maxLen; omega)
    rw [<- hG] at this
    unfold maxLen at this
    omega
  have htl : (xs.take (i * 5)).length = i * 5 := by rw [List.length_take, hxl]; omega
  have hz5 : (Value.cells (.agg #[.int .i64 0, .bool false, .int .i64 0, .int .i64 0, .int .i64 0])).size = 5 := rfl
  have hRl : row.length = G * 5 := by
    rw [hrow]
    simp only [Array.toList_append, List.length_append, Array.length_toList, size_zeroCells, htl, hz5]
    omega
  have hRt : row.take (i * 5) = xs.take (i * 5) := by
    rw [hrow]
    simp only [Array.toList_append, List.append_assoc]
    rw [List.take_append_of_le_length (by rw [htl]; exact Nat.le_refl _), List.take_of_length_le (by rw [htl]; exact Nat.le_refl _)]
  rw [<- hG] at hrz
  have hrow' : ((xs.take (i * 5)).toArray ++ Builtin.zeroCells (.agg #[.int .i64 0, .bool false, .int .i64 0, .int .i64 0, .int .i64 0] : Value).cells (n + 1 - i) ++ Builtin.zeroCells (.agg #[.int .i64 0, .bool false, .int .i64 0, .int .i64 0, .int .i64 0] : Value).cells (G - (n + 1))) = row.toArray := by rw [hrow]
  rw [hrow'] at hrz
  have HG := Lib.hid hg
  have HC := Lib.hid hcs
  have HV := Lib.hid hvb
  have HXL := Lib.hid hxl
  have HXC := Lib.hid hxc
  have HRL := Lib.hid hRl
  have HRT := Lib.hid hRt
  have HB : Hid ((w.alloc (.cells row.toArray 122)).drew.heap[w.heap.size]? = some (.cells row.toArray 122 (0, 0))) := by exact heap_alloc_new w _
  have HR := Lib.hid hrz
  have hci : ¬ (cap = i) := by omega
  have hGi : ¬ (G = i) := by omega
  have hGi1 : ¬ (G = i + 1) := by omega
  clear hg hcs hvb hx hxl hcur hxc hkk hik hold hrow hrow' hRl hRt htl hz5 hrz hi0 hz0 hzs hzb hG
  go_enter Tryz.func101, Tryz.ntmps101
  have hvr : (w.alloc (.cells row.toArray 122)).drew.heap[vb]? = some (.cells cs.toArray 122 (0, 0)) := (Below.heap_alloc w _ vb hvw).trans HV.out
  have HVR := Lib.hid hvr
  clear hvr
  go_wp2_with (first | (at_builtin; refine Lib.wpList_append_run _ rfl _ _ _ _ rfl _ _ rfl rfl _ _ (HR.out _) ?_) | (with_reducible refine wpList_copy_N rfl _ _ 57 57 rfl 122 5 Tryz.underlying57 sizeE w.heap.size (i * 5) (n + 1 - i) (G - i) ⟨vb, 0, none⟩ 1 1 rfl rfl row 122 HB.out cs wa_ (fun j u hu => by rw [Addr.add_lit, cell_of_row _ _ _ _ _ _ HVR.out]; simpa using hu) (by rw [HC.out, HRL.out]; omega) h1 ?_; intro w1 hg1 hgr1))
  have hgw1 : g < (w.alloc (.cells row.toArray 122)).drew.heap.size := by show g < (w.alloc (.cells row.toArray 122)).heap.size; simp; omega
  have hx1 : ∀ (j : Nat) (u : Value), xs[j]? = some u → w1.cell? ⟨g, j, none⟩ = some u := fun j u hu => by
    have e1 := hgr1.block g hgw1 w9_
    have e2 : w1.heap[g]? = w.heap[g]? := e1.trans (Below.heap_alloc w _ g hgw)
    rw [World.cell?_of_block (w := w) e2]
    exact HXC.out j u hu
  have hlen : (splice row (i * 5) cs).length = G * 5 := by rw [length_splice _ _ _ (by rw [HC.out, HRL.out]; omega), HRL.out]
  have hsrc1 : ∀ (j : Nat) (u : Value), (xs.drop (i * 5))[j]? = some u → w1.drew.cell? ((⟨g, i * 5, none⟩ : Addr).add j) = some u := fun j u hu => by
    rw [Addr.add_lit]
    rw [List.getElem?_drop] at hu
    exact hx1 _ u hu
  have HL := Lib.hid hlen
  have hw1 : IntKind.i64.wrap ((i : Int) + 1) = (i : Int) + 1 := IntWalk.i64_in _ z0_
  have hb1 : (0 : Int) ≤ (i : Int) + 1 := by omega
  have hin : i ≤ n := by omega
  have htn : ((i : Int) + 1).toNat = i + 1 := by omega
  have hb3 : (i : Int) ≤ (n : Int) := by omega
  clear hlen hx1 hgw1
  go_region_law (refine step_copy_N rfl _ _ 57 57 rfl 122 5 Tryz.underlying57 sizeE w.heap.size ((i + 1) * 5) (n - i) (G - (i + 1)) ⟨g, i * 5, none⟩ (n - i) (cap - i) x6_ x6_ (splice row (i * 5) cs) 122 hg1.out (xs.drop (i * 5)) (by rw [List.length_drop, HXL.out, show Nat.min (n - i) (n - i) = n - i from Nat.min_eq_left (Nat.le_refl _)]; omega) hsrc1 (by rw [List.length_drop, HXL.out, HL.out]; omega) (fun u hu => h1x u (List.mem_of_mem_drop hu)) ?_; intro w2 hg2 hgr2)
  clear hw1 hb1 htn hb3
  go_wp2
  go_ret
  have hz1 := hgr1.size
  have hz0 : (w.alloc (.cells row.toArray 122)).drew.heap.size = w.heap.size + 1 := by show (w.alloc (.cells row.toArray 122)).heap.size = _; simp
  rw [hz0] at hz1
  refine ⟨G, row, hGn, hG63, HRL.out, HRT.out, rfl, hg2, ⟨hgr2.os.trans hgr1.os, hgr2.tape.trans hgr1.tape, hgr2.output.trans hgr1.output, ?_, fun k hk _ => ?_⟩⟩
  · have h2 : w1.heap.size ≤ w2.heap.size := hgr2.size
    omega
  · exact (hgr2.block k (show k < w1.heap.size by omega) w9_).trans ((hgr1.block k (by rw [hz0]; omega) w9_).trans (Below.heap_alloc w _ k hk))
theorem any (v : Value) (n i : Nat) (xs cs : VL) (base vb : Nat) (w : World) (hown : w.ownsRow base 122 5 v n xs) (hi : i ≤ n) (hn : n ≤ 1000000) (hbase : base ≤ w.heap.size)
    (hcs : cs.length = 5) (hvb : w.heap[vb]? = some (.cells cs.toArray 122 (0, 0))) (hne : v.ownBlock ≠ some vb) (h1 : ∀ u ∈ cs, u.oneCell' = true) (h1x : ∀ u ∈ xs, u.oneCell' = true) :
    Calls Tryz.prog 101 #[v, .int .i64 i, .slice (some ⟨vb, 0, none⟩) 1 1] w fun e w' =>
      ∃ A' c', e = .returned (.slice A' (n + 1) c') ∧ w'.ownsRow base 122 5 (.slice A' (n + 1) c') (n + 1) (xs.take (i * 5) ++ cs ++ xs.drop (i * 5)) ∧ w.grownBy w' v.ownBlock := by
  have hxl := hown.1
  rcases hown.2 with ⟨rfl, rfl⟩ | ⟨g, cap, cur, rfl, hbg, hg, hnc, hcm, hcs', htake⟩
  · obtain rfl : i = 0 := by omega
    obtain rfl : xs = [] := List.eq_nil_of_length_eq_zero (by simpa using hxl)
    refine (end_nil cs base vb w hbase hcs hvb h1).mono ?_
    rintro e w' ⟨v', rfl, h2, h3⟩
    rcases own_form h2 z0_ with ⟨A', c', rfl⟩
    exact ⟨A', c', rfl, by simpa using h2, h3⟩
  · have hne' : vb ≠ g := by rintro rfl; exact hne rfl
    have hcm' : cap ≤ 9223372036854775807 := by unfold maxLen at hcm; omega
    have hcl : cur.toList.length = cap * 5 := by rw [Array.length_toList, hcs']
    have hg' : w.heap[g]? = some (.cells cur.toList.toArray 122 (0, 0)) := by simpa using hg
    have hmul : n * 5 ≤ cap * 5 := Nat.mul_le_mul_right _ hnc
    by_cases hin : i = n
    · subst hin
      refine (end_some g i cap xs cs base vb w hown hnc hcm' hn hbase hcs hvb h1).mono ?_
      rintro e w' ⟨v', rfl, h2, h3⟩
      rcases own_form h2 z0_ with ⟨A', c', rfl⟩
      refine ⟨A', c', rfl, ?_, h3⟩
      rw [List.take_of_length_le z0_, List.drop_eq_nil_of_le z0_, List.append_nil]
      exact h2
    · by_cases hroom : n + 1 ≤ cap
      · refine (shift g n cap i cur.toList xs cs vb w hg' hcl htake z0_ hroom hcm' hn hcs hvb hne' h1 h1x).mono ?_
        rintro e w' ⟨rfl, h2, h3⟩
        have hs := splice_shift cur.toList xs cs (i * 5) 5 (n * 5) htake hcs z0_ z0_
        rw [show i * 5 + 5 = (i + 1) * 5 by omega, show n * 5 + 5 = (n + 1) * 5 by omega] at hs
        refine ⟨_, _, rfl, ⟨?_, .inr ⟨g, cap, _, rfl, hbg, h2.out, hroom, hcm, ?_, by simpa using hs⟩⟩, h3⟩
        · simp only [List.length_append, List.length_take, List.length_drop, hcs, hxl]; omega
        · rw [List.size_toArray, length_splice _ _ _ (by rw [hcs, length_splice _ _ _ (by rw [List.length_drop, hxl, hcl]; omega), hcl]; omega), length_splice _ _ _ (by rw [List.length_drop, hxl, hcl]; omega), hcl]
      · refine (grow g n cap i cur.toList xs cs vb w hg' hcl htake z0_ z0_ hnc hn hcs hvb h1 h1x).mono ?_
        rintro e w' ⟨G, row, hGn, hG63, hRl, hRt, rfl, h2, h3⟩
        have hs := splice_grow row xs cs (i * 5) 5 (n * 5) hRt hcs z0_ z0_ z0_
        rw [show i * 5 + 5 = (i + 1) * 5 by omega, show n * 5 + 5 = (n + 1) * 5 by omega] at hs
        refine ⟨_, _, rfl, ⟨?_, .inr ⟨w.heap.size, G, _, rfl, hbase, h2.out, hGn, by unfold maxLen; omega, ?_, by simpa using hs⟩⟩, ⟨h3.os, h3.tape, h3.output, h3.size, fun k hk _ => h3.block k hk zm_⟩⟩
        · simp only [List.length_append, List.length_take, List.length_drop, hcs, hxl]; omega
        · rw [List.size_toArray, length_splice _ _ _ (by rw [List.length_drop, hxl, length_splice _ _ _ (by rw [hcs, hRl]; omega), hRl]; omega), length_splice _ _ _ (by rw [hcs, hRl]; omega), hRl]
end InsTk5
/-- A world where a number is asked: the size of its heap. -/
instance : Coe World Nat := ⟨fun w => w.heap.size⟩
theorem l_ {n : Nat} : n ≤ n := Nat.le_refl n
theorem e_ {α : Type} {l : List α} {i : Nat} {a : α} (h : l[i]? = some a) : ∃ h : i < l.length, l[i] = a := List.getElem?_eq_some_iff.1 h
theorem b_ {B : Nat} {w : World} : Below B w w := Below.refl B w
/-- A fact kept from the walk, as the kit's own Hid, with a shorter way back. -/
theorem q_ {p : Prop} (h : p) : Hid p := h
theorem sA {α : Type} {l : List α} {i : Nat} {a : α} : l.toArray.setIfInBounds i a = (l.set i a).toArray := by simp
theorem s0 {α : Type} {x a : α} {l : List α} : (x :: l).set 0 a = a :: l := rfl
theorem s1 {α : Type} {x a : α} {l : List α} {i : Nat} : (x :: l).set (i + 1) a = x :: l.set i a := rfl
theorem bel {B : Nat} {w w0 w' : World} (h : Below B w w0) (f : Below B w w0 → Below B w w' := by (intro h; repeat (first | (with_reducible exact h) | (with_reducible refine Below.drew ?_) | (with_reducible refine below_drewN ?_ _) | (with_reducible refine Below.setCell ?_ ?_ _; rotate_left; (first | omega | (simp <;> omega))) | (with_reducible refine Below.alloc ?_ ?_ _; rotate_left; (first | omega | (simp <;> omega)))))) : Below B w w' := f h
theorem o_ {p : Prop} (h : p := by omega) : p := h
theorem d_ {p : Prop} (h : p := by decide) : p := h
theorem k_ {p : Prop} (h : p := by kernel_rfl) : p := h
theorem v_ {p : Prop} (h : p := by simp [Act.eval, Act.put]) : p := h
theorem w_ {p : Prop} (h : p := by simp [Act.eval, Act.put] <;> rfl) : p := h
abbrev pt (b : Nat) : Value := .pointer (some ⟨b, 0, none⟩)
abbrev a_ (b : Nat) : Addr := ⟨b, 0, none⟩
abbrev f_ (b i : Nat) : Addr := ⟨b, i, none⟩
abbrev i_ (n : Int) : Value := .int .i64 n
theorem h_ (p : Prop) (h : p) : Hid p := h
theorem x_ {p : Prop} (h : p := by (intro h; cases h)) : p := h
theorem m_ {p : Prop} (h : p := by (unfold maxLen; omega)) : p := h
theorem t_ {p : Prop} (h : p := by simp) : p := h
theorem y_ {p : Prop} (h : p := by simp <;> omega) : p := h
theorem n_ {α : Type} {l : Array α} {i : Nat} {x : α} {p : Prop} (ho : l[i]? = some x) (h : ¬ i < l.size := by simp) : p := absurd (Array.getElem?_eq_some_iff.1 ho).1 h
theorem cfL {p : Prop} (h : p := by (go_wp2_with (first | (go_at_call 168;first | (refine (bb_ x.a _ _).mono ?_;rintro e Y ⟨⟨rA,rfl,hA⟩,hY⟩;have HV2:=q_ (HV.o.trans (hY.mono HV.o.size));clear HV hY c0 c1 c2 x0 x1 x2 x3 x4 s0 s1 s2 s3 hbw hsl;have HV:=HV2;clear HV2;obtain ⟨⟨c0,c1,c2⟩,⟨x0,x1,x2,x3,x4⟩,⟨s0,s1,s2,s3⟩,hbw2,hsl2⟩:=HQ.o Y HV.o;have hbw:=q_ hbw2;have hsl:=q_ hsl2;clear hbw2 hsl2) | (refine (bb_ x.b _ _).mono ?_;rintro e Y ⟨⟨rB,rfl,hB⟩,hY⟩;have HV2:=q_ (HV.o.trans (hY.mono HV.o.size));clear HV hY c0 c1 c2 x0 x1 x2 x3 x4 s0 s1 s2 s3 hbw hsl;have HV:=HV2;clear HV2;obtain ⟨⟨c0,c1,c2⟩,⟨x0,x1,x2,x3,x4⟩,⟨s0,s1,s2,s3⟩,hbw2,hsl2⟩:=HQ.o Y HV.o;have hbw:=q_ hbw2;have hsl:=q_ hsl2;clear hbw2 hsl2) | (refine (bb_ x.c _ _).mono ?_;rintro e Y ⟨⟨rC,rfl,hC⟩,hY⟩;have HV2:=q_ (HV.o.trans (hY.mono HV.o.size));clear HV hY c0 c1 c2 x0 x1 x2 x3 x4 s0 s1 s2 s3 hbw hsl;have HV:=HV2;clear HV2;obtain ⟨⟨c0,c1,c2⟩,⟨x0,x1,x2,x3,x4⟩,⟨s0,s1,s2,s3⟩,hbw2,hsl2⟩:=HQ.o Y HV.o;have hbw:=q_ hbw2;have hsl:=q_ hsl2;clear hbw2 hsl2)) | (go_at_call 128;refine (op_any (some ⟨ab,ao,none⟩) n c v s _ l _ hsl.o o_).mono ?_;rintro e Y ⟨⟨q,rfl,hq⟩,hY⟩;have HV2:=q_ (HV.o.trans (hY.mono HV.o.size));clear HV hY c0 c1 c2 x0 x1 x2 x3 x4 s0 s1 s2 s3 hbw hsl;have HV:=HV2;clear HV2;obtain ⟨⟨c0,c1,c2⟩,⟨x0,x1,x2,x3,x4⟩,⟨s0,s1,s2,s3⟩,hbw2,hsl2⟩:=HQ.o Y HV.o;have hbw:=q_ hbw2;have hsl:=q_ hsl2;clear hbw2 hsl2) | (go_at_call 169;refine (ez_ _ _).mono ?_;rintro e Y ⟨⟨ba,rfl⟩,hY⟩;have HV2:=q_ (HV.o.trans (hY.mono HV.o.size));clear HV hY c0 c1 c2 x0 x1 x2 x3 x4 s0 s1 s2 s3 hbw hsl;have HV:=HV2;clear HV2;obtain ⟨⟨c0,c1,c2⟩,⟨x0,x1,x2,x3,x4⟩,⟨s0,s1,s2,s3⟩,hbw2,hsl2⟩:=HQ.o Y HV.o;have hbw:=q_ hbw2;have hsl:=q_ hsl2;clear hbw2 hsl2) | (go_at_call 170;refine (Name_any _ _).mono ?_;rintro e Y ⟨⟨ns,nb,rfl⟩,hY⟩;have HV2:=q_ (HV.o.trans (hY.mono HV.o.size));clear HV hY c0 c1 c2 x0 x1 x2 x3 x4 s0 s1 s2 s3 hbw hsl;have HV:=HV2;clear HV2;obtain ⟨⟨c0,c1,c2⟩,⟨x0,x1,x2,x3,x4⟩,⟨s0,s1,s2,s3⟩,hbw2,hsl2⟩:=HQ.o Y HV.o;have hbw:=q_ hbw2;have hsl:=q_ hsl2;clear hbw2 hsl2)); all_goals (go_ret; exact ⟨rfits_no l i x, hbw.o⟩))) : p := h
theorem H0_{p:Prop}(h:p:=by exact hin 0 rfl _ _ rfl rfl):p:=h
theorem H1_{p:Prop}(h:p:=by exact hin 1 rfl _ _ rfl rfl):p:=h
theorem H2_{p:Prop}(h:p:=by exact hin 2 rfl _ _ rfl rfl):p:=h
theorem H3_{p:Prop}(h:p:=by exact hin 3 rfl _ _ rfl rfl):p:=h
theorem H4_{p:Prop}(h:p:=by exact hin 4 rfl _ _ rfl rfl):p:=h
theorem H5_{p:Prop}(h:p:=by exact hin 5 rfl _ _ rfl rfl):p:=h
theorem H6_{p:Prop}(h:p:=by exact hin 6 rfl _ _ rfl rfl):p:=h
theorem H7_{p:Prop}(h:p:=by exact hin 7 rfl _ _ rfl rfl):p:=h
theorem H8_{p:Prop}(h:p:=by exact hin 8 rfl _ _ rfl rfl):p:=h
theorem H9_{p:Prop}(h:p:=by exact hin 9 rfl _ _ rfl rfl):p:=h
theorem H10_{p:Prop}(h:p:=by exact hin 10 rfl _ _ rfl rfl):p:=h
theorem H11_{p:Prop}(h:p:=by exact hin 11 rfl _ _ rfl rfl):p:=h
theorem H12_{p:Prop}(h:p:=by exact hin 12 rfl _ _ rfl rfl):p:=h
theorem H13_{p:Prop}(h:p:=by exact hin 13 rfl _ _ rfl rfl):p:=h
theorem H14_{p:Prop}(h:p:=by exact hin 14 rfl _ _ rfl rfl):p:=h
theorem H15_{p:Prop}(h:p:=by exact hin 15 rfl _ _ rfl rfl):p:=h
theorem H16_{p:Prop}(h:p:=by exact hin 16 rfl _ _ rfl rfl):p:=h
theorem H17_{p:Prop}(h:p:=by exact hin 17 rfl _ _ rfl rfl):p:=h
theorem H18_{p:Prop}(h:p:=by exact hin 18 rfl _ _ rfl rfl):p:=h
theorem H19_{p:Prop}(h:p:=by exact hin 19 rfl _ _ rfl rfl):p:=h
theorem M0_{p:Prop}(h:p:=by exact bn_ (.inl rfl) (show (kV _ (pt b)).p w _ from (hout 0 d_)) hI):p:=h
theorem cuF{p:Prop}(h:p:=by (go_region_law fail; all_goals (go_wp2_with fail; go_meet; exact ⟨V.heap.size, rfl, l_, q_ ((Bx.new V [.bool rt, i_ rn] _).drew), q_ (((b_).alloc (l_) _).drew)⟩))):p:=h
end Go.Proofs.YtfolidlmgfhkiaaGreat
