/- Lemmas on functions of the program, under the conditions that each states. -/
import Derived.Test.YtfolidlmgfhkiaaGreatV34
import Derived.Test.YtfolidlmgfhkiaaGreatV40
import Derived.Test.YtfolidlmgfhkiaaGreatV41
set_option linter.unusedVariables false
set_option linter.unusedSimpArgs false
set_option maxRecDepth 100000
set_option maxHeartbeats 8000000
namespace Go.Proofs.YtfolidlmgfhkiaaGreat
open Go.RowKit Go.Proofs.Tryz
def cq_:List CT:=[.sl aw_,.num,.num,.sl [.num],.sl [.num]] ++ comT ++ [.sl ae_,.num]
theorem isz_43:(prog.info? 43).map (·.size)=some cq_.length:=by kernel_rfl
def kM (M:Nat):Nat->Nat:=fun j=>if j=15 then M else 900000000
def owL:Nat->Option TypeId:=fun j=>if j=15 then some 65 else none
def LM (r x q M:Nat):List LV:=[⟨q,fun _=>100,[.sl folT],noOw⟩,⟨x,kM M,cq_,owL⟩,⟨r,fun _=>900000000,cq_,noOw⟩]
structure Cst where
 CA:OA
 cn:Nat
 cc:Nat
 cv:Int
 cs:Int
 WA:OA
 wn:Nat
 wc:Nat
 DA:OA
 dn:Nat
 dc:Nat
 l:List In
structure XC (k:Cst) (us cx:VL):Prop where
 c0:cx[0]?=some (.slice k.CA k.cn k.cc)
 c1:cx[1]?=some (i_ k.cv)
 c2:cx[2]?=some (i_ k.cs)
 c3:cx[3]?=some (.slice k.WA k.wn k.wc)
 c4:cx[4]?=some (.slice k.DA k.dn k.dc)
 cu:∀ (j:Nat) (u:Value),us[j]?=some u->cx[5+j]?=some u
 len:us.length=10
 lx:cx.length=17
structure XT (k:Cst) (N:Nat) (us:VL) (Y:NP) (w:World):Prop where
 co:SlT w Y 2048 aw_ k.CA k.cn k.cc
 li:Sl w w 5 In.cells k.CA k.cn k.l
 wd:SlT w Y 10 [.num] k.WA k.wn k.wc
 dv:SlT w Y 2049 [.num] k.DA k.dn k.dc
 us:VTs w Y N comT us
section
variable {k:Cst} {us vs cx:VL} {N N':Nat} {Y Y' X:NP} {w w':World} {j d:Nat} {v:Value} {L:List LV} {C:Nat->VL}
theorem XC.set (h:XC k us cx) (hj:15<=j):XC k us (cx.set j v):=by
 have f:∀ i,i<15->(cx.set j v)[i]?=cx[i]?:=fun i hi=>by rw [gs_,if_neg o_]
 exact ⟨(f 0 o_).trans h.c0,(f 1 o_).trans h.c1,(f 2 o_).trans h.c2,(f 3 o_).trans h.c3,(f 4 o_).trans h.c4,fun i u hi=>(f _ (by have:=(e_ hi).1;have:=h.len;omega)).trans (h.cu i u hi),h.len,by rw [List.length_set];exact h.lx⟩
theorem ef_ {α:Type} {cs ws:List α} {o i:Nat} (ho:o<=cs.length) (hi:i<o\/o+ws.length<=i):(splice cs o ws)[i]?=cs[i]?:=by
 unfold splice;have A0:(cs.take o).length=o:=by rw [List.length_take];omega
 rcases hi with hi | hi
 ·exact uo_
 rw [List.getElem?_append_right yi_,A0,List.getElem?_append_right o_,List.getElem?_drop]
 congr 1;omega
theorem splice_in {α:Type} {cs ws:List α} {o i:Nat} (ho:o<=cs.length) (hi:i<ws.length):(splice cs o ws)[o+i]?=ws[i]?:=by
 unfold splice;have A0:(cs.take o).length=o:=by rw [List.length_take];omega
 rw [List.getElem?_append_right yi_,A0,List.getElem?_append_left o_]
 congr 1;omega
theorem splice_len {α:Type} {cs ws:List α} {o:Nat} (ho:o+ws.length<=cs.length):(splice cs o ws).length=cs.length:=by
 unfold splice;rw [List.length_append,List.length_append,List.length_take,List.length_drop];omega
theorem XC.put (h:XC k us cx) (hv:vs.length=10):XC k vs (splice cx 5 vs):=by
 have f:∀ i,i<5->(splice cx 5 vs)[i]?=cx[i]?:=fun i hi=>ef_ (by have:=h.lx;omega) (.inl hi)
 exact ⟨(f 0 o_).trans h.c0,(f 1 o_).trans h.c1,(f 2 o_).trans h.c2,(f 3 o_).trans h.c3,(f 4 o_).trans h.c4,fun i u hi=>(splice_in (by have:=h.lx;omega) (e_ hi).1).trans hi,hv,by rw [splice_len (by have:=h.lx;omega)];exact h.lx⟩
theorem XC.range {x:Nat} (h:XC k us cx) (hb:Bx w x cx):w.rangeAt x 5 us:=fun j v hv=>hb.2.1 _ v (h.cu j v hv)
theorem XT.go (h:XT k N us Y w) (u:Up w Y w' Y'):XT k N us Y' w':=⟨h.co.go u (l_),h.li.go h.co u,h.wd.go u (l_),h.dv.go u (l_),h.us.go u (l_)⟩
theorem XT.more (h:XT k N us Y w) (hN:N<=N'):XT k N' us Y w:=⟨h.co,h.li,h.wd,h.dv,h.us.up (Kp.refl _ _) hN⟩
theorem XT.with (h:XT k N us Y w) (hv:VTs w Y N' comT vs):XT k N' vs Y w:=⟨h.co,h.li,h.wd,h.dv,hv⟩
theorem XT.less (h:XT k N us Y w) (hXY:∀ q,q<w.heap.size->Y' q->Y q):XT k N us Y' w:=h.go ⟨Kp.refl _ _,fun q hq hn hy=>hn (hXY q hq hy)⟩
theorem Fs.lt {w1:World} (h:Fs d X w L Y C w1):∀ q,Y q->q<w1:=by
 obtain ⟨w0,h1,h2,h3⟩:=h;exact h3.lt
theorem Fs.sub {w1:World} (h:Fs d X w L Y C w1):∀ q,X q->Y q:=by
 obtain ⟨w0,h1,h2,h3⟩:=h;exact h3.sub
theorem Fs.box {w1:World} {i b:Nat} {K:Nat->Nat} {ts:List CT} {ow:Nat->Option TypeId} (h:Fs d X w L Y C w1) (hp:L[i]?=some ⟨b,K,ts,ow⟩):Bx w1 b (C b):=by
 obtain ⟨w0,h1,h2,h3⟩:=h;exact h3.box hp
theorem Fs.len {w1:World} {i b:Nat} {K:Nat->Nat} {ts:List CT} {ow:Nat->Option TypeId} (h:Fs d X w L Y C w1) (hp:L[i]?=some ⟨b,K,ts,ow⟩):(C b).length=ts.length:=by
 obtain ⟨w0,h1,h2,h3⟩:=h;exact h3.len hp
end
section
variable {X Z Y:NP} {w0 w w':World} {L:List LV} {C:Nat->VL} {b i j N:Nat} {K:Nat->Nat} {ts e:List CT} {ow:Nat->Option TypeId} {et:TypeId}
theorem Fr.own_nil (h:Fr X Z w0 (⟨b,fun _=>N,ts,noOw⟩ :: L) Y C w) (j0 M:Nat) (et:TypeId) (ht:ts[j0]?=some (.sl e)) (hc:(C b)[j0]?=some (.slice none 0 0)):Fr X Z w0 (⟨b,fun j=>if j=j0 then M else N,ts,fun j=>if j=j0 then some et else none⟩ :: L) Y C w:=by
 have A0:∀ (u:Value) (i:Nat),(if i=j0 then some et else none)≠none->(C b)[i]?=some u->u.ownBlock=none:=fun u i hi hu=>by
  by_cases e:i=j0
  ·subst e;rw [hc] at hu;injection hu with hu;subst hu;rfl
  rw [if_neg e] at hi;exact absurd rfl hi
 refine ⟨h.kp,h.sub,h.lt,fun p hp=>?_,fun p hp j t hj ho=>?_,fun p hp j t A1 hj ho=>?_,fun p hp q hq i j u v g hne A2 A3 hi hj hu=>?_,by have:=h.nd;simpa using this⟩
 ·rcases List.mem_cons.1 hp with rfl | hp
  ·exact h.blk ⟨b,fun _=>N,ts,noOw⟩ (.head _)
  exact h.blk p (.tail _ hp)
 ·rcases List.mem_cons.1 hp with rfl | hp
  ·obtain ⟨v,h1,h2⟩:=h.val ⟨b,fun _=>N,ts,noOw⟩ (.head _) j t hj rfl;have hne:j≠j0:=fun e=>by
    subst e;have ho:(if j=j then some et else none)=none:=ho;rw [if_pos rfl] at ho;cases ho
   refine ⟨v,h1,?_⟩;show VT w Y (if j=j0 then M else N) t v
   rw [if_neg hne];exact h2
  exact h.val p (.tail _ hp) j t hj ho
 ·rcases List.mem_cons.1 hp with rfl | hp
  ·have he:j=j0:=by
    by_cases e:j=j0
    ·exact e
    have ho:(if j=j0 then some et else none)=some A1:=ho;rw [if_neg e] at ho;cases ho
   subst he;have hj:ts[j]?=some t:=hj;rw [ht] at hj;injection hj with hj;subst hj;exact ⟨e,none,0,0,rfl,hc,Nat.zero_le _,OwT.nil _ _ _ _ _ _,fun g hg=>by cases hg⟩
  obtain ⟨e',A,n,c,h1,h2,h3,h4,h5⟩:=h.row p (.tail _ hp) j t A1 hj ho;refine ⟨e',A,n,c,h1,h2,h3,h4,fun g hg=>⟨(h5 g hg).1,(h5 g hg).2.1,fun q hq=>?_⟩⟩;rcases List.mem_cons.1 hq with rfl | hq
  ·exact (h5 g hg).2.2 ⟨b,fun _=>N,ts,noOw⟩ (.head _)
  exact (h5 g hg).2.2 q (.tail _ hq)
 rcases List.mem_cons.1 hp with rfl | hp
 ·rw [A0 u i A2 hi] at hu;cases hu
 rcases List.mem_cons.1 hq with rfl | hq
 ·rw [A0 v j A3 hj];simp
 exact h.far p (.tail _ hp) q (.tail _ hq) i j u v g hne A2 A3 hi hj hu
theorem Fr.row_new {A:OA} {n c:Nat} (h:Fr X Z w0 L Y C w) (hp:L[i]?=some ⟨b,K,ts,ow⟩) (hj:ts[j]?=some (.sl e)) (ho:ow j=some et) (hC:(C b)[j]?=some (.slice A n c)) (hg:w.grownBy w' (Value.slice A n c).ownBlock) (hO:OwT w' 0 et e Y (K j) A n c):Fr X Z w0 L Y C w'/\Up w Y w' Y:=by
 have A4:=Fr.mem hp;obtain ⟨e1,A1,n1,c1,q1,q2,q3,q4,q5⟩:=h.row _ A4 j _ et hj ho;injection q1 with q1;subst q1;rw [show (C b)[j]?=some (.slice A1 n1 c1) from q2] at hC;injection hC with hC;injection hC with ha hb hc;subst ha hb hc;have A7:Kp Y w w':=(Kp.refl _ w).grown hg (fun g hg=>.inl (q5 g hg).1);have A6:Up w Y w' Y:=⟨A7,fun _ _ h=>h⟩;have same:∀ p ∈ L,p.b=b->p=⟨b,K,ts,ow⟩:=fun p hp he=>nodup_eq h.nd hp A4 he
 refine ⟨⟨h.kp.grown hg (fun g A0=>?_),h.sub,fun k hk=>lt_ (h.lt k hk) hg.size,fun p hp=>?_,fun p hp q t hq A3=>?_,fun p hp q t A5 hq A3=>?_,h.far,h.nd⟩,A6⟩
 ·rcases (q5 g A0).2.1 with h3 | h3
  ·exact .inr h3
  exact .inl h3
 ·obtain ⟨h1,h2,h3,h4⟩:=h.blk p hp;exact ⟨h1,h2,h3.kp (X:=fun k=>(Value.slice A1 n1 c1).ownBlock=some k) ((Kp.refl _ w).grown hg (fun g A0=>.inl A0)) (fun he=>(q5 _ he).2.2 p hp rfl),h4⟩
 ·obtain ⟨v,h1,h2⟩:=h.val p hp q t hq A3;exact ⟨v,h1,h2.go A6 (l_)⟩
 by_cases hsame:p.b=b/\q=j
 ·obtain ⟨he,rfl⟩:=hsame;have:=same p hp he;subst this;rw [show ts[q]?=some t from hq] at hj;injection hj with hj;subst hj;rw [show ow q=some A5 from A3] at ho;injection ho with ho;subst ho;exact ⟨e,A1,n1,c1,rfl,q2,q3,hO,q5⟩
 have hne:p.b≠b\/q≠j:=by
  by_cases h1:p.b=b
  ·exact .inr (fun h2=>hsame ⟨h1,h2⟩)
  exact .inl h1
 obtain ⟨e2,A2,n2,c2,r1,r2,r3,r4,r5⟩:=h.row p hp q t A5 hq A3;exact ⟨e2,A2,n2,c2,r1,r2,r3,r4.stay hg (fun k hk=>⟨(q5 k hk).1,fun A0=>h.far p hp _ A4 q j _ _ k hne (by rw [A3];simp) (fun e=>by cases (show some et=none from ho.symm.trans e)) r2 q2 A0 hk⟩),r5⟩
theorem OwT.sets {base g n c k:Nat}:∀ (us:VL) (o:Nat) {w:World},OwT w base et e X N (some (a_ g)) n c->k<n->(∀ (i:Nat) (u:Value),us[i]?=some u->∃ t,e[o+i]?=some t/\VT w (Wi X (some g)) N t u)->OwT (w.setCells g (k*e.length+o) us) base et e X N (some (a_ g)) n c
 | [],o,w,h,_,_=>h
 | v :: r,o,w,h,hk,hv=>by
  obtain ⟨t,ht,A2⟩:=hv 0 v rfl;have h1:=h.set (k:=k) (j:=o) hk (by simpa using ht) A2 ⟨g,k*e.length+o,none⟩ rfl;rw [World.setCells,show k*e.length+o+1=k*e.length+(o+1) from by omega];refine OwT.sets r (o+1) h1 hk (fun i u hi=>?_);obtain ⟨t2,A0,A1⟩:=hv (i+1) u (by simpa using hi);exact ⟨t2,by rw [show o+1+i=o+(i+1) from by omega];exact A0,A1.up ((Kp.refl _ w).setCell (p:=⟨g,k*e.length+o,none⟩) (.inl (.inr rfl)) v) (l_)⟩
theorem grown_sets (g:Nat):∀ (vs:VL) (o:Nat) (w:World),w.grownBy (w.setCells g o vs) (some g)
 | [],_,w=>⟨rfl,rfl,rfl,l_,fun _ _ _=>rfl⟩
 | v :: r,o,w=>by rw [World.setCells];exact (dt_ w ⟨g,o,none⟩ v).trans (grown_sets g r (o+1) _)
end
def RScene (X:NP) (e:Ending) (w:World):Prop:=∃ (k:Cst) (us vs:VL) (A:OA) (n c:Nat) (nx:Int),e=.returned (.agg vs.toArray)/\Hid (XC k us vs)/\Hid (XT k 200000000 us X w)/\vs[15]?=some (.slice A n c)/\n<=16/\Hid (SlT w X 70000 ae_ A n c)/\vs[16]?=some (i_ nx)
theorem infoTask:(prog.info? 65).map (fun i=>(i.zero,i.size,i.bytes))=some (some (.agg zl1.toArray),48,480):=by kernel_rfl
theorem Rd.sets {d b:Nat} (hd:d<b):∀ (vs:VL) (o:Nat) {w w':World},Rd d w w'->w<=b->Rd d w (w'.setCells b o vs)
 | [],_,_,_,h,_=>h
 | v :: r,o,w,w',h,hb=>by rw [World.setCells];exact Rd.sets hd r (o+1) (h.set (p:=⟨b,o,none⟩) hd hb v) hb
theorem sx_of {w:World} {x:Nat} {k:Cst} {us cx:VL} {nx:Int} (hb:Bx w x cx) (hc:XC k us cx) (h16:cx[16]?=some (i_ nx)) :
  w.cell? (a_ x)=some (.slice k.CA k.cn k.cc)/\w.cell? (f_ x 1)=some (i_ k.cv)/\w.cell? (f_ x 2)=some (i_ k.cs)/\w.cell? (f_ x 16)=some (i_ nx) :=
 ⟨hb.2.1 0 _ hc.c0,hb.2.1 1 _ hc.c1,hb.2.1 2 _ hc.c2,hb.2.1 16 _ h16⟩
theorem scene_end {d x r i j M N n c:Nat} {X Y:NP} {w w1:World} {L:List LV} {C:Nat->VL} {k:Cst} {us:VL} {A:OA} {nx:Int} (h:Fs d X w L Y C w1) (hx:L[i]?=some ⟨x,kM M,cq_,owL⟩) (hr:L[j]?=some ⟨r,fun _=>900000000,cq_,noOw⟩)
  (hc:XC k us (C x)) (ht:XT k N us Y w1) (hN:N<=200000000) (h15:(C x)[15]?=some (.slice A n c)) (h16:(C x)[16]?=some (i_ nx)) (hn:n<=16) (hM:M<=70000) (hX:∀ q,X q->q<w) (hrw:w<=r) (hdr:d<r) :
  Bx (w1.setCells r 0 (C x)) r (C x)/\(∀ u ∈ C x,u.oneCell'=true)/\RScene X (.returned (.agg (C x).toArray)) (w1.setCells r 0 (C x))/\Rd d w (w1.setCells r 0 (C x)):=by
 have hE:=h.end_;obtain ⟨w0,A6,A9,f⟩:=h;obtain ⟨A0,_,A5,A7⟩:=f.blk _ (Fr.mem hr);have h1:∀ u ∈ C x,u.oneCell'=true:=fun u hu=>by
  obtain ⟨q,hq⟩:=List.getElem?_of_mem hu;have A1:=(e_ hq).1;rw [f.len hx] at A1;by_cases e:q=15
  ·subst e;rw [h15] at hq;injection hq with hq;subst hq;rfl
  obtain ⟨v,hv,A8⟩:=f.val _ (Fr.mem hx) q _ (ge_ A1) (by show (if q=15 then some _ else none)=none;rw [if_neg e]);rw [hq] at hv;injection hv with hv;subst hv;exact A8.one
 obtain ⟨A2,n2,c2,g2,hs⟩:=f.row_out hx (j:=15) (e:=ae_) rfl (show owL 15=some 65 from rfl) (X':=fun q=>X q\/q=r) (fun q hq=>by
  rcases hq with hq | hq
  ·exact ⟨f.sub q hq,.inl (by rw [A6.1];exact hX q hq)⟩
  subst hq;exact ⟨A0,.inr ⟨_,Fr.mem hr,rfl⟩⟩)
 rw [h15] at g2;injection g2 with g2;injection g2 with q1 q2 q3;subst q1 q2 q3;have hk:Kp (fun q=>X q\/q=r) w1 (w1.setCells r 0 (C x)):=ag_ r _ 0 (Kp.refl _ w1) (.inl (.inr rfl));have A3:Up w1 (fun q=>X q\/q=r) (w1.setCells r 0 (C x)) X:=⟨hk,fun q _ hq A4=>hq (.inl A4)⟩;refine ⟨A5.all _ (by rw [A7];exact f.len hx),h1,⟨k,us,C x,A,n,c,nx,rfl,q_ hc,q_ (((ht.less (Y':=fun q=>X q\/q=r) (fun q _ hq=>by rcases hq with hq | hq;exact f.sub q hq;subst hq;exact A0)).go A3).more hN),h15,hn,q_ (hs.go A3 (by show (if 15=15 then M else 900000000)<=70000;rw [if_pos rfl];exact hM)),h16⟩,Rd.sets hdr _ 0 hE hrw⟩
theorem fold_sets_at:∀ (vs:VL) (o:Nat) (a:Array Value),o+vs.length=a.size->List.foldl (fun (cs:Array Value) (x:Value × Nat)=>cs.setIfInBounds x.2 x.1) a (vs.zipIdx o)=(a.toList.take o ++ vs).toArray
 | [],o,a,h=>by
  have h:o=a.size:=by simpa using h
  rw [List.append_nil,h,List.take_of_length_le t_];simp
 | v :: r,o,a,h=>by
  have h2:o<a.size:=by simp at h;omega
  rw [List.zipIdx_cons,List.foldl_cons,fold_sets_at r (o+1) _ (by rw [Array.size_setIfInBounds];simp at h;omega)]
  congr 1
  rw [Array.toList_setIfInBounds,List.take_add_one,List.take_set,gs_,if_pos rfl,if_pos wi_];rw [List.set_eq_of_length_le zp_];simp
theorem fold_sets (zs vs:VL) (h:vs.length=zs.length):List.foldl (fun (cs:Array Value) (x:Value × Nat)=>cs.setIfInBounds x.2 x.1) zs.toArray vs.zipIdx=vs.toArray:=by
 rw [fold_sets_at vs 0 zs.toArray yp_];simp
def Md2 (d:Nat) (X:NP) (w:World) (r x q:Nat) (k:Cst) (N M n:Nat) (wr:World) (Y:NP) (C:Nat->VL) (us:VL) (A:OA) (c:Nat) (nx:Int):Prop :=
 Fs d X w (LM r x q M) Y C wr/\XC k us (C x)/\XT k N us Y wr/\(C x)[15]?=some (.slice A n c)/\(C x)[16]?=some (i_ nx)
theorem Md2.pick {d:Nat} {X:NP} {w wr w2:World} {r x q N M n c:Nat} {k:Cst} {Y:NP} {C:Nat->VL} {us:VL} {A:OA} {nx:Int} (h:Md2 d X w r x q k N M n wr Y C us A c nx) (hX:X d) (ht:cd_ wr d w2):Md2 d X w r x q k N M n w2 Y C us A c nx:=by
 obtain ⟨h1,h2,h3,h4,h5⟩:=h;obtain ⟨f,u⟩:=h1.pick hX ht;exact ⟨f,h2,h3.go u,h4,h5⟩
theorem Fs.moreM {d r x q M M':Nat} {X Y:NP} {w w1:World} {C:Nat->VL} (h:Fs d X w (LM r x q M) Y C w1) (hM:M<=M'):Fs d X w (LM r x q M') Y C w1:=h.map (fun w0 _ f=>f.raise rfl (fun i p p' hp A0=>by
 match i,hp,A0 with
 | 0,hp,A0=>injection hp with hp;injection A0 with A0;subst hp A0;exact ⟨rfl,rfl,rfl,fun _=>l_⟩
 | 1,hp,A0 =>
  injection hp with hp
  injection A0 with A0
  subst hp A0
  refine ⟨rfl,rfl,rfl,fun j=>?_⟩
  show (if j=15 then M else 900000000)<=(if j=15 then M' else 900000000)
  split
  ·exact hM
  exact l_
 | 2,hp,A0=>injection hp with hp;injection A0 with A0;subst hp A0;exact ⟨rfl,rfl,rfl,fun _=>l_⟩))
theorem Md2.more {d:Nat} {X:NP} {w wr:World} {r x q N M M' n c:Nat} {k:Cst} {Y:NP} {C:Nat->VL} {us:VL} {A:OA} {nx:Int} (h:Md2 d X w r x q k N M n wr Y C us A c nx) (hM:M<=M'):Md2 d X w r x q k N M' n wr Y C us A c nx:=⟨h.1.moreM hM,h.2⟩
theorem Md2.put {d:Nat} {X:NP} {w wr:World} {r x q N M M' n c kk g:Nat} {k:Cst} {Y:NP} {C:Nat->VL} {us vs:VL} {nx:Int} (h:Md2 d X w r x q k N M n wr Y C us (some (a_ g)) c nx) (hM:M<=M') (hk:kk<n) (hv:VTs wr Y M' ae_ vs):Md2 d X w r x q k N M' n (wr.setCells g (kk*48) vs) Y C us (some (a_ g)) c nx:=by
 obtain ⟨h1,h2,h3,h4,h5⟩:=h.more hM;obtain ⟨w0,A4,A3,f⟩:=h1;obtain ⟨A2,n2,c2,_,q2,A6,hO,hY⟩:=f.own (i:=1) (j:=15) (e:=ae_) rfl rfl (show owL 15=some 65 from rfl);rw [h4] at q2;injection q2 with q2;injection q2 with e1 e2 e3;subst e1 e2 e3;have A1:=OwT.sets (k:=kk) vs 0 hO hk (fun i u hu=>by
  have hi:i<ae_.length:=by rw [<-hv.1];exact (e_ hu).1
  obtain ⟨v,A0,A5⟩:=hv.2 i _ (ge_ hi)
  rw [hu] at A0;injection A0 with A0;subst A0
  refine ⟨ae_[i],by rw [Nat.zero_add];exact ge_ hi,A5.less (fun q _ hq=>?_)⟩
  rcases hq with hq | hq
  ·exact hq
  exact hY q hq)
 obtain ⟨f2,u2⟩:=f.row_new (i:=1) (j:=15) rfl rfl (show owL 15=some 65 from rfl) h4 (grown_sets g vs (kk*48) wr) A1;exact ⟨⟨w0,A4,A3,f2⟩,h2,h3.go u2,h4,h5⟩
theorem Md2.el {d:Nat} {X:NP} {w wr:World} {r x q N M n c kk:Nat} {k:Cst} {Y:NP} {C:Nat->VL} {us:VL} {A:OA} {nx:Int} (h:Md2 d X w r x q k N M n wr Y C us A c nx) (hk:kk<n) (hn:n<=M) :
  ∃ g,A=some (a_ g)/\g<wr/\SlE wr wr Y M ae_ (some (a_ g)) n/\(∀ j,wr.frozen? (f_ g j)=false)/\∃ vs,VTs wr Y M ae_ vs/\∀ (j:Nat) (u:Value),vs[j]?=some u->wr.cell? ⟨g,kk*48+j,none⟩=some u:=by
 obtain ⟨h1,h2,h3,h4,h5⟩:=h;obtain ⟨w0,A4,A3,f⟩:=h1;obtain ⟨A2,n2,c2,_,q2,A5,hO,hY⟩:=f.own (i:=1) (j:=15) (e:=ae_) rfl rfl (show owL 15=some 65 from rfl);rw [h4] at q2;injection q2 with q2;injection q2 with e1 e2 e3;subst e1 e2 e3;have hO:OwT wr 0 65 ae_ Y M A n c:=hO;obtain ⟨g,rfl,_,A1,A0⟩:=hO.addr o_;have hs:SlE wr wr Y M ae_ (some (a_ g)) n:=(hO.sle hn).kept (Kp.refl (fun _=>False) wr) (fun _ _ h=>h.elim) (fun q _ h1 h2=>h1 (.inl h2));obtain ⟨g',o',hA,_,_,vs,hv,hm⟩:=hs.el kk hk;injection hA with hA;injection hA with e1 e2;subst e1 e2;exact ⟨g,rfl,A1,hs,A0,vs,hv,fun j u hu=>by have:=hm j u hu;rwa [Nat.zero_add] at this⟩
end Go.Proofs.YtfolidlmgfhkiaaGreat
namespace Go.Proofs.YtfolidlmgfhkiaaGreat
open Go.RowKit
theorem scene_one {k:Cst} {us vs:VL} {N n c:Nat} {Y:NP} {w:World} {A:OA} {nx:Int} (hc:XC k us vs) (ht:XT k N us Y w) (h15:vs[15]?=some (.slice A n c)) (h16:vs[16]?=some (i_ nx)):∀ u ∈ vs,u.oneCell'=true:=fun u hu=>by
 obtain ⟨q,hq⟩:=List.getElem?_of_mem hu;have A0:=(e_ hq).1;rw [hc.lx] at A0;have f:∀ {i:Nat} {v:Value},vs[i]?=some v->q=i->v.oneCell'=true->u.oneCell'=true:=fun {i v} h e h1=>by subst e;rw [h] at hq;injection hq with hq;subst hq;exact h1
 by_cases h5:q<5
 ·have:q=0\/q=1\/q=2\/q=3\/q=4:=by omega
  rcases this with e | e | e | e | e
  ·exact f hc.c0 e rfl
  ·exact f hc.c1 e rfl
  ·exact f hc.c2 e rfl
  ·exact f hc.c3 e rfl
  exact f hc.c4 e rfl
 by_cases h10:q<15
 ·have hj:q - 5<us.length:=by rw [hc.len];omega
  exact f (hc.cu (q - 5) _ (ge_ hj)) o_ (ht.us.one _ (List.getElem_mem hj))
 have:q=15\/q=16:=by omega
 rcases this with e | e
 ·exact f h15 e rfl
 exact f h16 e rfl
end Go.Proofs.YtfolidlmgfhkiaaGreat
namespace Go.Proofs.YtfolidlmgfhkiaaGreat.Sq
open Go.RowKit Go.Proofs.Tryz
def GivesN (k:Nat) (w:World) (e:Ending) (w':World):Prop:=∃ A c,e=.returned (.slice A k c)/\Below w w w'
theorem outN_le (d:List Int):∀ n,outN d n<=n
 | 0=>l_
 | n+1=>by have:=outN_le d n;rw [outN];split <;> omega
theorem remove_any (B:OA) (m d:Nat) (l:List Tk) (DA:OA) (dn dc:Nat) (drop:List Int) (w:World) (hl:Sl w w 48 Tk.cells B m l) (hm:m<=900000) (hR:∀ t ∈ l,Rt w t) (hd:Sl w w 1 intCells DA dn drop) (hdn:dn<=1000000) :
  Calls prog 13 #[.slice B m d,.slice DA dn dc] w (GivesN (outN drop m) w):=by
 have HL:=q_ hl;have HR:=q_ hR;have HD:=q_ hd;obtain ⟨i0,hi,AA,AB,AC⟩:=info_parts infoTask;clear hl hR hd;go_enter func13,ntmps13;go_wp2_with fail;go_loopw [5,10] (fun v i wr=>∃ (j:Nat) (xs:VL),j<=m/\i=i_ j/\Hid (wr.ownsRow w 65 48 v (outN drop j) xs)/\Hid (Below w w wr)) (fun _ i _=>m - (intOf i).toNat)
 case atStart=>exact ⟨0,[],Nat.zero_le _,rfl,q_ (World.ownsRow_nil _ _ _ _),q_ (b_)⟩
 obtain ⟨j,xs,hj,rfl,hO,hb⟩:=hrel;by_cases hlt:j<m
 case neg =>
  obtain rfl:j=m:=by omega
  have Az:¬(j:Int)<(j:Int):=by omega
  rcases hO.o.2 with ⟨rfl,h0⟩ | ⟨g,cap,cur,rfl,_⟩
  ·go_wp2_with fail;go_ret;exact ⟨none,0,by first | rfl | (rw [h0];rfl),hb.o⟩
  go_wp2_with fail;go_ret;exact ⟨_,_,rfl,hb.o⟩
 case pos =>
 have Az:(j:Int)<(m:Int):=by omega
 obtain ⟨ab,ao,hB,Am,Ak⟩:=HL.o.at_ o_;subst hB;obtain ⟨t,ht⟩:∃ t,l[j]?=some t:=⟨_,ge_ (by have:=HL.o.len;omega)⟩;have Aj:=h_ (wr.rangeAt ab (ao+j*48) t.cells) (fun q v hv=>by
  have h:=(belc hb.o (b:=ab) (o:=ao+(j*48+q)) Am).trans (Ak j t ht q v hv)
  rwa [Nat.add_assoc])
 have A8:=h_ ((prog.info? 65).map (·.size)=some t.cells.length) (by rw [t.size];exact tk_agg);have Ai:=h_ (∀ u ∈ t.cells,u.oneCell'=true) (fun u hu=>List.all_eq_true.1 t.one u hu);have BN:=q_ (Bx.new wr zl1 65);have TH:=h_ ((wr.alloc (.cells zl1.toArray 65)).there wr 0 t.cells.length) (BN.o.there (by rw [t.size];decide));obtain ⟨b7,Aa⟩:=ex_ (wr:Nat);obtain ⟨U,hU⟩:=ex_ ((wr.alloc (.cells zl1.toArray 65)).setCells wr 0 t.cells);have Ab:Below wr wr U:=by rw [hU];exact (ag_ wr t.cells 0 (Kp.of_below (X:=fun _=>False) ((b_).alloc (l_) _)) (.inr (l_))).below (l_) (fun _ _ h=>h)
 have BT:=h_ (Bx U wr t.cells) (by rw [hU];exact BN.o.all t.cells (by rw [t.size];rfl));have A6:=q_ (hb.o.trans (Ab.mono hb.o.size));have As:=q_ (own_below hO.o Ab);have Aw:=q_ ((HR.o t (List.mem_of_getElem? ht)).up A6.o);clear Ak ht Ab Am;go_upto_region 5 with (first | (with_reducible refine ac_ rfl 65 (.tmp 13) rfl _ underlying65 rfl v_ Aj.o A8.o ?_) | (with_reducible refine ab_ rfl 65 (.tmp 7) (.tmp 14) rfl t.cells w_ v_ TH.o A8.o Ai.o ?_));rw [<-hU,<-Aa];rw [<-Aa] at BT;clear hU Aa BN TH Ai Aj;go_wp2_with fail;refine (contains_any DA dn dc drop (j:Int) U (HD.o.up A6.o) hdn).mono ?_;rintro e w1 ⟨rfl,A1⟩;have A7:=q_ (A6.o.trans (A1.mono A6.o.size));have Ag:=q_ (own_below As.o A1);have Au:=q_ (Aw.o.up A1);have Av:=q_ (BT.o.below A1).whole;clear A1;cases hc:drop.contains (j:Int)
 case true =>
  have HE:=q_ (show outN drop (j+1)=outN drop j by rw [outN,hc];simp);clear hc;go_wp2_with fail;go_roundw
  case rel=>exact ⟨j+1,xs,o_,zb_,q_ (by rw [HE.o];exact Ag.o),A7⟩
  case measure=>simp [intOf] <;> omega
 have HE:=q_ (show outN drop (j+1)=outN drop j+1 by rw [outN,hc];simp);have AD:=outN_le drop j;clear hc;go_wp2_with (with_reducible refine ac_ rfl 65 (.tmp 7) rfl _ underlying65 rfl v_ Av.o A8.o ?_);refine (dupTask_any t w1 Au.o).mono ?_;rintro e w2 ⟨cs,rfl,A4,A5,A9⟩;have Af:=q_ (A7.o.trans (A9.mono A7.o.size));have Ah:=q_ (own_below Ag.o A9);have Ax:=h_ (cs.length=(zl1:VL).length) A4;have An:=q_ ((b_).alloc (l_) _:Below w2 w2 (w2.alloc (.cells cs.toArray 65)));have Aq:=h_ (∀ ad,(some (a_ w2):OA)=some ad->∀ (i:Nat) (u:Value),cs[i]?=some u->(w2.alloc (.cells cs.toArray 65)).cell? (ad.add i)=some u) (fun ad h i u hu=>by
  injection h with h
  subst h
  rw [Addr.add_lit,ar_ _ _ _ _ _ rfl,Nat.zero_add,List.getElem?_toArray]
  exact hu)
 have Ap:=q_ A4;have Ar:=h_ (∀ u ∈ cs,u.oneCell'=true) (fun u hu=>List.all_eq_true.1 A5 u hu);have Ad:=q_ Af.o.size;clear A9 A5;go_wp2_with (at_builtin;rw [fold_sets _ cs Ax.o];refine bt_ rfl _ _ 41 rfl w 65 i0 _ 48 480 underlying41 hi AA AB AC rfl d_ u5 (outN drop j) xs rfl (own_below Ah.o An.o) (some (a_ w2)) 1 1 cs rfl w3_ (by rw [Ap.o]) Aq.o Ar.o m_ o_ (by have:=Ad.o;simp;omega) ?_;intro A3 c3 w3 A0 A2 Ae);have Ay:=q_ A0;have Al:Below w w w3:=(Af.o.alloc Ad.o _).grown A2 (by have:=Ad.o;simp;omega) (fun k hk=>(Ah.o.lt k hk).1);have Ao:=q_ Al;clear A0 A2 Ae Al;go_roundw
 case rel=>exact ⟨j+1,_,o_,zb_,q_ (by rw [HE.o];exact Ay.o),Ao⟩
 case measure=>simp [intOf] <;> omega
end Go.Proofs.YtfolidlmgfhkiaaGreat.Sq
