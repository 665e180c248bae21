/- Lemmas: each says what a function of the program leaves, under the conditions that it states. -/
import Derived.Test.YtfolidlmgfhkiaaGreatZ01
import Derived.Deep.MidRow
import Derived.Deep.DeepCutAuto
import Derived.Deep.CutBlock
import Derived.Deep.LoopGhost
import Derived.Deep.RegionHeld3
import Derived.Deep.RegionWith
import Derived.Shelf.SlicesE.Kit
import Derived.Laws.StructEq
import Derived.Test.YtfolidlmgfhkiaaGreatRows
import Derived.RowKit
set_option linter.unusedVariables false
set_option linter.unusedSimpArgs false
set_option maxRecDepth 100000
set_option maxHeartbeats 4000000
namespace Go.Proofs.YtfolidlmgfhkiaaGreat
open Go.RowKit
def Bx (w:World) (b:Nat) (cs:VL):Prop:=b<w/\(∀ (j:Nat) (v:Value),cs[j]?=some v->w.cell? (f_ b j)=some v)/\∀ j,w.frozen? (f_ b j)=false
section
variable {X Y:NP} {w w':World} {b K K':Nat} {cs:VL}
theorem Bx.new (w:World) (cs:VL) (t:TypeId):Bx (w.alloc (.cells cs.toArray t)) w cs :=
 ⟨by simp,fun j v hv=>by rw [aj_ _ _ _ _ _ rfl];simpa using hv,fun j=>bx_ _ _ _ _ _ rfl⟩
theorem Bx.kp (h:Bx w b cs) (hk:Kp X w w') (hx:¬X b):Bx w' b cs:=⟨lt_ h.1 hk.size,fun j v hv=>(hk.cell h.1 hx).trans (h.2.1 j v hv),fun j=>(hk.frozen h.1 hx).trans (h.2.2 j)⟩
theorem Bx.below (h:Bx w b cs) (hb:Below w w w'):Bx w' b cs:=h.kp (X:=fun _=>False) (.of_below hb) (fun h=>h)
theorem Bx.alloc (h:Bx w b cs) (o:Obj):Bx (w.alloc o) b cs:=h.kp ((Kp.refl (fun _=>False) w).alloc o) (fun h=>h)
theorem Bx.drew (h:Bx w b cs):Bx w.drew b cs:=h.kp ((Kp.refl (fun _=>False) w).drew) (fun h=>h)
theorem Bx.set (h:Bx w b cs) (k:Nat) (u:Value):Bx (w.setCell (f_ b k) u) b (cs.set k u):=by
 refine ⟨by simpa [World.setCell] using h.1,fun j v hv=>?_,fun j=>by rw [World.frozen?_setCell];exact h.2.2 j⟩;rw [gs_] at hv;by_cases hk:k=j
 ·subst hk;rw [if_pos rfl] at hv;split at hv
  ·rename_i hlt
   injection hv with hv;subst hv;exact World.cell?_setCell_same _ _ _ (h.2.1 k _ (ge_ hlt))
  cases hv
 rw [if_neg hk] at hv;rw [be_ _ _ _ _ (by intro e;injection e with _ e;exact hk e)];exact h.2.1 j v hv
theorem Bx.far (h:Bx w b cs) {p:Addr} (hp:p.block≠b) (u:Value):Bx (w.setCell p u) b cs :=
 ⟨by simpa [World.setCell] using h.1,fun j v hv=>(World.cell?_setCell_other w p _ u (fun e=>hp (by rw [e]))).trans (h.2.1 j v hv),fun j=>by rw [World.frozen?_setCell];exact h.2.2 j⟩
theorem Bx.there (h:Bx w b cs) {o n:Nat} (ho:o+n<=cs.length):w.there b o n:=fun j hj=>by
 refine ⟨?_,h.2.2 _⟩;rw [h.2.1 (o+j) _ (ge_ o_)];rfl
theorem Bx.range (h:Bx w b cs) (o n:Nat):w.rangeAt b o ((cs.drop o).take n):=fun j v hv=>by
 rw [List.getElem?_take] at hv;split at hv
 ·rw [List.getElem?_drop] at hv;exact h.2.1 _ v hv
 cases hv
theorem Bx.whole (h:Bx w b cs):w.rangeAt b 0 cs:=fun j v hv=>by rw [Nat.zero_add];exact h.2.1 j v hv
theorem setCells_size (b:Nat):∀ (vs:VL) (o:Nat) (w:World),(w.setCells b o vs).heap.size=w
 | [],_,_=>rfl
 | v :: r,o,w=>by rw [World.setCells,setCells_size b r (o+1)];simp [World.setCell]
theorem ai_ {X:NP} (b:Nat):∀ (vs:VL) (o:Nat) {w0 w:World},Kp X w0 w->(X b∨w0<=b)->Kp X w0 (w.setCells b o vs)
 | [],_,_,_,h,_=>h
 | v :: r,o,w0,w,h,hb=>by rw [World.setCells];exact ai_ b r (o+1) (h.setCell (p:=⟨b,o,none⟩) hb v) hb
theorem Bx.put (h:Bx w b cs) (o:Nat) (vs:VL) (hv:o+vs.length<=cs.length):Bx (w.setCells b o vs) b (splice cs o vs):=by
 refine ⟨by rw [setCells_size];exact h.1,fun j v hj=>?_,fun j=>by rw [World.frozen?_setCells];exact h.2.2 j⟩;unfold splice at hj;have A0:(cs.take o).length=o:=by rw [List.length_take];omega
 by_cases h1:j<o
 ·rw [List.getElem?_append_left (by rw [A0];exact h1),List.getElem?_take,if_pos h1] at hj;rw [World.cell?_setCells_out b vs o w (f_ b j) (fun _ _=>.inl h1)];exact h.2.1 j v hj
 rw [List.getElem?_append_right (by rw [A0];omega),A0] at hj;by_cases h2:j - o<vs.length
 ·rw [List.getElem?_append_left h2] at hj;have:=World.rangeAt_setCells_same w b o vs (h.there hv) (j - o) v hj
  rwa [show o+(j - o)=j from by omega] at this
 rw [List.getElem?_append_right o_,List.getElem?_drop] at hj;rw [World.cell?_setCells_out b vs o w (f_ b j) (fun _ _=>.inr (by show o+vs.length<=j;omega))];rw [show o+vs.length+(j - o - vs.length)=j from by omega] at hj;exact h.2.1 j v hj
theorem splice_all {α:Type} {cs vs:List α} (h:vs.length=cs.length):splice cs 0 vs=vs:=by
 unfold splice;simp [←h]
theorem Bx.all (h:Bx w b cs) (vs:VL) (hv:vs.length=cs.length):Bx (w.setCells b 0 vs) b vs:=by
 have:=h.put 0 vs o_
 rwa [splice_all hv] at this
theorem Bx.others (h:Bx w b cs) {b' o:Nat} (hb:b'≠b) (vs:VL):Bx (w.setCells b' o vs) b cs :=
 ⟨by rw [setCells_size];exact h.1,fun j v hv=>by rw [World.cell?_setCells_out b' vs o w (f_ b j) (fun e _=>absurd e.symm hb)];exact h.2.1 j v hv,fun j=>by rw [World.frozen?_setCells];exact h.2.2 j⟩
theorem VTs.part {ts:List CT} {vs:VL} (h:VTs w X K ts vs) (o n:Nat):VTs w X K ((ts.drop o).take n) ((vs.drop o).take n):=by
 refine ⟨by simp [h.1],fun j t hj=>?_⟩;rw [List.getElem?_take] at hj;split at hj
 ·rename_i hlt
  rw [List.getElem?_drop] at hj;obtain ⟨u,hu,hv⟩:=h.2 _ t hj;exact ⟨u,by rw [List.getElem?_take,if_pos hlt,List.getElem?_drop];exact hu,hv⟩
 cases hj
end
section
variable {P:Program} {ops:Array Oper} {rest:List Oper} {op:Oper} {a:Act} {w:World} {Q:Exit->Act->World->Prop} {b o:Nat} {cs:VL}
theorem ac_ (hgd:op.guard=none) (ty:TypeId) (x:Operand) (ho:op.op=.load ty x) (d:TypeDesc) (hu:P.underlying ty=some d) (hd:d.isRow=true) (hx:a.eval x=.pointer (some (f_ b o))) (hc:w.rangeAt b o cs) (hi:(P.info? ty).map (·.size)=some cs.length)
  (h:wpList P ops Q rest (a.put op.dst (.agg cs.toArray)) w):wpList P ops Q (op :: rest) a w :=
 wpList_load_mid hgd ty x ho b o hx cs d hc hu hd hi h
theorem ab_ (hgd:op.guard=none) (ty:TypeId) (x y:Operand) (ho:op.op=.store ty x y) (vs:VL) (hx:a.eval x=.pointer (some (f_ b o))) (hy:a.eval y=.agg vs.toArray) (ht:w.there b o vs.length) (hi:(P.info? ty).map (·.size)=some vs.length) (h1:∀ u ∈ vs,u.oneCell'=true)
  (h:wpList P ops Q rest (a.put op.dst undef) (w.setCells b o vs)):wpList P ops Q (op :: rest) a w :=
 wpList_store_mid hgd ty x y ho b o vs.toArray hx hy (by rw [List.size_toArray];exact ht) (by rw [List.size_toArray];exact hi) (by simpa using h1) (by simpa using h)
end
def RB (e:Ending):Prop:=∃ b,e=.returned (.bool b)
def RN (e:Ending):Prop:=∃ n:Int,e=.returned (i_ n)
def RA (X:NP) (K:Nat) (ts:List CT) (e:Ending) (w:World):Prop:=∃ vs,e=.returned (.agg vs.toArray)/\VTs w X K ts vs
def RAT (X:NP) (K:Nat) (ts:List CT) (t:CT) (e:Ending) (w:World):Prop:=∃ vs v,e=.returned (.tuple #[.agg vs.toArray,v])/\VTs w X K ts vs/\VT w X K t v
/- Results that stand in cells. -/
section
variable {P:Program} {fn:Func} {R:Ending->World->Prop} {a:Act} {w:World} {b o:Nat} {cs:VL} {p u t:Nat} {d:TypeDesc}
theorem results_C (h:fn.results=#[.cell p t]) {tmps:Array Value} (ha:tmps.getD p undef=.pointer (some (f_ b o))) (hu:P.underlying t=some d) (hd:d.isRow=true) (hi:(P.info? t).map (·.size)=some cs.length) (hc:w.rangeAt b o cs) :
  (results fn tmps).run P w=.ok (.agg cs.toArray) w:=by
 have hl:=run_loadVar_mid (P:=P) w b o t cs d hc hu hd hi;unfold results;rw [h];simp only [Array.getD_eq_getD_getElem?] at ha;simp [ha,asAddr,Sem.run_bind,hl,Result.andThen]
theorem results_CT (h:fn.results=#[.cell p t,.tmp u]) {tmps:Array Value} (ha:tmps.getD p undef=.pointer (some (f_ b o))) (hu:P.underlying t=some d) (hd:d.isRow=true) (hi:(P.info? t).map (·.size)=some cs.length) (hc:w.rangeAt b o cs) :
  (results fn tmps).run P w=.ok (.tuple #[.agg cs.toArray,tmps.getD u undef]) w:=by
 have hl:=run_loadVar_mid (P:=P) w b o t cs d hc hu hd hi;unfold results;rw [h];simp only [Array.getD_eq_getD_getElem?] at ha;simp [ha,asAddr,Sem.run_bind,hl,Result.andThen]
theorem retC (h:fn.results=#[.cell p t]) (ha:a.tmps.getD p undef=.pointer (some (f_ b o))) (hu:P.underlying t=some d) (hd:d.isRow=true) (hi:(P.info? t).map (·.size)=some cs.length) (hc:w.rangeAt b o cs) (hf:a.defers=[]) (hR:R (.returned (.agg cs.toArray)) w):bodyPost P fn R .ret a w :=
 bodyPost_ret (results_C h ha hu hd hi hc) hf hR
theorem bh_ (h:fn.results=#[.cell p t,.tmp u]) (ha:a.tmps.getD p undef=.pointer (some (f_ b o))) (hu:P.underlying t=some d) (hd:d.isRow=true) (hi:(P.info? t).map (·.size)=some cs.length) (hc:w.rangeAt b o cs) (hf:a.defers=[]) (hR:R (.returned (.tuple #[.agg cs.toArray,a.tmps.getD u undef])) w):bodyPost P fn R .ret a w :=
 bodyPost_ret (results_CT h ha hu hd hi hc) hf hR
end
/- The blocks that a function makes at its beginning. -/
theorem af_ (w:World) (c0:VL) (t0:TypeId):∃ W,W=w.alloc (.cells c0.toArray t0)/\Below w w W/\(W:Nat)=w+1/\Bx W w c0 :=
 ⟨_,rfl,(b_).alloc (l_) _,by simp,Bx.new w c0 t0⟩
theorem co_ (w:World) (c0:VL) (t0:TypeId) (c1:VL) (t1:TypeId):∃ W,W=(w.alloc (.cells c0.toArray t0)).alloc (.cells c1.toArray t1)/\Below w w W/\(W:Nat)=w+2/\Bx W w c0/\Bx W (w+1) c1:=by
 obtain ⟨V,rfl,hb,hz,b0⟩:=af_ w c0 t0;refine ⟨_,rfl,hb.alloc o_ _,by simp,b0.alloc _,?_⟩;have:=Bx.new (w.alloc (.cells c0.toArray t0)) c1 t1
 rwa [hz] at this
theorem el_ (w:World) (c0:VL) (t0:TypeId) (c1:VL) (t1:TypeId) (c2:VL) (t2:TypeId):∃ W,W=((w.alloc (.cells c0.toArray t0)).alloc (.cells c1.toArray t1)).alloc (.cells c2.toArray t2)/\Below w w W/\(W:Nat)=w+3/\Bx W w c0/\Bx W (w+1) c1/\Bx W (w+2) c2:=by
 obtain ⟨V,rfl,hb,hz,b0,b1⟩:=co_ w c0 t0 c1 t1;refine ⟨_,rfl,hb.alloc o_ _,by simp,b0.alloc _,b1.alloc _,?_⟩;have:=Bx.new ((w.alloc (.cells c0.toArray t0)).alloc (.cells c1.toArray t1)) c2 t2
 rwa [hz] at this
theorem blocks4 (w:World) (c0:VL) (t0:TypeId) (c1:VL) (t1:TypeId) (c2:VL) (t2:TypeId) (c3:VL) (t3:TypeId):∃ W,W=(((w.alloc (.cells c0.toArray t0)).alloc (.cells c1.toArray t1)).alloc (.cells c2.toArray t2)).alloc (.cells c3.toArray t3)/\Below w w W/\(W:Nat)=w+4/\Bx W w c0/\Bx W (w+1) c1/\Bx W (w+2) c2/\Bx W (w+3) c3:=by
 obtain ⟨V,rfl,hb,hz,b0,b1,b2⟩:=el_ w c0 t0 c1 t1 c2 t2;refine ⟨_,rfl,hb.alloc o_ _,by simp,b0.alloc _,b1.alloc _,b2.alloc _,?_⟩;have:=Bx.new (((w.alloc (.cells c0.toArray t0)).alloc (.cells c1.toArray t1)).alloc (.cells c2.toArray t2)) c3 t3
 rwa [hz] at this
section
variable {X:NP} {w:World} {K:Nat}
theorem list_choose {α:Type} {n:Nat} {R:Nat->α->Prop} (h:∀ k,k<n->∃ x,R k x):∃ l:List α,l.length=n/\∀ (k:Nat) (x:α),l[k]?=some x->R k x:=by
 induction n with
 | zero=>exact ⟨[],rfl,fun k x hx=>by simp at hx⟩
 | succ n ih =>
  obtain ⟨l,hl,hR⟩:=ih (fun k hk=>h k o_);obtain ⟨x,hx⟩:=h n o_;refine ⟨l ++ [x],by simp [hl],fun k y hy=>?_⟩;by_cases hk:k<n
  ·rw [List.getElem?_append_left o_] at hy;exact hR k y hy
  rw [List.getElem?_append_right o_,hl] at hy;have A0:k=n:=by
   have:=(e_ hy).1;simp at this;omega
  subst A0;simp at hy;subst hy;exact hx
theorem SlT.list {α:Type} {e:List CT} {A:OA} {n c:Nat} (cells:α->VL) (P:α->Prop) (h:SlT w X K e A n c) (hc:∀ vs,VTs w X K e vs->∃ x:α,cells x=vs/\P x):∃ l:List α,Sl w w e.length cells A n l/\∀ x ∈ l,P x:=by
 rcases Nat.eq_zero_or_pos n with rfl | hn
 ·exact ⟨[],Sl.nil,fun x hx=>by simp at hx⟩
 obtain ⟨g,o,hA,hg,hX,_⟩:=h.mt hn;subst hA;obtain ⟨l,hl,hR⟩:=list_choose (n:=n) (R:=fun k x=>P x/\∀ j u,(cells x)[j]?=some u->w.cell? ⟨g,o+(k*e.length+j),none⟩=some u) (fun k hk=>by
  obtain ⟨g',o',A0,_,_,vs,A1,hm⟩:=h.mt hk
  injection A0 with A0
  injection A0 with h1 h2
  subst h1 h2
  obtain ⟨x,hx,hP⟩:=hc vs A1
  exact ⟨x,hP,fun j u hu=>by rw [hx] at hu;have:=hm j u hu;rwa [Nat.add_assoc] at this⟩)
 refine ⟨l,⟨hl,fun _=>⟨g,o,rfl,hg,fun i x hx j u hu=>(hR i x hx).2 j u hu⟩⟩,fun x hx=>?_⟩;obtain ⟨k,hk⟩:=List.getElem?_of_mem hx;exact (hR k x hk).1
theorem VTs.len {ts:List CT} {vs:VL} (h:VTs w X K ts vs):vs.length=ts.length:=h.1
theorem VTs.num {ts:List CT} {vs:VL} (h:VTs w X K ts vs) {j:Nat} (hj:ts[j]?=some .num):∃ n,vs[j]?=some (i_ n):=by
 obtain ⟨u,hu,hv⟩:=h.2 j _ hj;obtain ⟨n,rfl⟩:=hv.int;exact ⟨n,hu⟩
theorem VTs.tru {ts:List CT} {vs:VL} (h:VTs w X K ts vs) {j:Nat} (hj:ts[j]?=some .tru):∃ n,vs[j]?=some (.bool n):=by
 obtain ⟨u,hu,hv⟩:=h.2 j _ hj;obtain ⟨n,rfl⟩:=hv.bool;exact ⟨n,hu⟩
theorem VTs.slc {ts e:List CT} {vs:VL} (h:VTs w X K ts vs) {j:Nat} (hj:ts[j]?=some (.sl e)):∃ A n c,vs[j]?=some (.slice A n c)/\SlT w X K e A n c:=by
 obtain ⟨u,hu,hv⟩:=h.2 j _ hj;obtain ⟨A,n,c,rfl,hs⟩:=hv.slice;exact ⟨A,n,c,hu,hs⟩
end
end Go.Proofs.YtfolidlmgfhkiaaGreat
namespace Go.Proofs.YtfolidlmgfhkiaaGreat
structure Val where
 ref:Bool
 n:Int
 deriving DecidableEq
def Val.cells (x:Val):VL:=[.bool x.ref,.int .i64 x.n]
theorem Val.size (x:Val):x.cells.length=2:=rfl
theorem val_one (l:List Val):∀ u ∈ l.flatMap Val.cells,u.oneCell'=true:=by
 intro u hu
 obtain ⟨t,_,ht⟩:=List.mem_flatMap.1 hu
 simp [Val.cells] at ht
 rcases ht with rfl | rfl <;> rfl
structure Ob where
 id:Int
 A:OA
 n:Nat
 c:Nat
 s:List Val
def Ob.cells (x:Ob):VL:=[.int .i64 x.id,.slice x.A x.n x.c]
theorem Ob.size (x:Ob):x.cells.length=2:=rfl
theorem ob_one (l:List Ob):∀ u ∈ l.flatMap Ob.cells,u.oneCell'=true:=by
 intro u hu
 obtain ⟨t,_,ht⟩:=List.mem_flatMap.1 hu
 simp [Ob.cells] at ht
 rcases ht with rfl | rfl <;> rfl
structure PO where
 id:Int
 s:List Val
 deriving DecidableEq
def Ob.po (x:Ob):PO:=⟨x.id,x.s⟩
def idx (id:Int):List PO→Option Nat
 | []=>none
 | x :: l=>if x.id=id then some 0 else (idx id l).map (·+1)
def idxI (id:Int) (l:List PO):Int:=match idx id l with | some i=>i | none=>-1
theorem idx_none {id:Int}:∀ {l:List PO},(∀ (i:Nat) (x:PO),l[i]?=some x→x.id≠id)→idx id l=none
 | [],_=>rfl
 | x :: l,h=>by simp [idx,h 0 x rfl,idx_none (l:=l) (fun i y hy=>h (i+1) y (by simpa using hy))]
theorem idx_some {id:Int}:∀ {l:List PO} {i:Nat} {x:PO},l[i]?=some x→x.id=id→(∀ (j:Nat) (y:PO),j<i→l[j]?=some y→y.id≠id)→idx id l=some i
 | [],i,x,h,_,_=>by simp at h
 | y :: l,0,x,h,hx,_=>by simp at h;subst h;simp [idx,hx]
 | y :: l,i+1,x,h,hx,hb=>by
  have h0:=hb 0 y (by omega) rfl
  have ih:=idx_some (l:=l) (i:=i) (by simpa using h) hx (fun j z hj hz=>hb (j+1) z (by omega) (by simpa using hz))
  simp [idx,h0,ih]
theorem eh_ (id:Int):∀ l:List PO,(idx id l=none∧∀ (i:Nat) (x:PO),l[i]?=some x→x.id≠id)∨∃ (i:Nat) (x:PO),idx id l=some i∧l[i]?=some x∧x.id=id∧∀ (j:Nat) (y:PO),j<i→l[j]?=some y→y.id≠id
 | []=>.inl ⟨rfl,by simp⟩
 | x :: l=>by
  by_cases h:x.id=id
  ·exact .inr ⟨0,x,by simp [idx,h],rfl,h,fun j y hj=>absurd hj (by omega)⟩
  ·rcases eh_ id l with ⟨h1,h2⟩ | ⟨i,y,h1,h2,h3,h4⟩
   ·refine .inl ⟨by simp [idx,h,h1],fun i y hy=>?_⟩
    match i,hy with
    | 0,hy=>simp at hy;subst hy;exact h
    | i+1,hy=>exact h2 i y (by simpa using hy)
   ·refine .inr ⟨i+1,y,by simp [idx,h,h1],by simpa using h2,h3,fun j z hj hz=>?_⟩
    match j,hz with
    | 0,hz=>simp at hz;subst hz;exact h
    | j+1,hz=>exact h4 j z (by omega) (by simpa using hz)
def readV (id f:Int) (l:List PO):Option Val:=match idx id l with | some i=>(match l[i]? with | some x=>if 0≤f then x.s[f.toNat]? else none | none=>none) | none=>none
def readB (id f:Int) (l:List PO):Bool:=(readV id f l).isSome
def readD (id f:Int) (l:List PO):Val:=(readV id f l).getD ⟨false,0⟩
theorem read_no {id f:Int} {l:List PO} (h:idx id l=none):readB id f l=false∧readD id f l=⟨false,0⟩:=by simp [readB,readD,readV,h]
theorem read_neg {id f:Int} {l:List PO} (h:f<0):readB id f l=false∧readD id f l=⟨false,0⟩:=by
 have:¬0≤f:=by omega
 have e:readV id f l=none:=by
  unfold readV;split
  ·split
   ·rw [if_neg this]
   ·rfl
  ·rfl
 simp [readB,readD,e]
theorem read_far {id f:Int} {l:List PO} {i:Nat} {x:PO} (h:idx id l=some i) (hx:l[i]?=some x) (hf:(x.s.length:Int)≤f):readB id f l=false∧readD id f l=⟨false,0⟩:=by
 have e:readV id f l=none:=by
  simp only [readV,h,hx]
  rw [if_pos (by omega),List.getElem?_eq_none (by omega)]
 simp [readB,readD,e]
theorem read_at {id:Int} {j:Nat} {l:List PO} {i:Nat} {x:PO} {v:Val} (h:idx id l=some i) (hx:l[i]?=some x) (hv:x.s[j]?=some v):readB id (j:Int) l=true∧readD id (j:Int) l=v:=by
 have e:readV id (j:Int) l=some v:=by
  simp only [readV,h,hx]
  rw [if_pos (by omega),Int.toNat_natCast,hv]
 simp [readB,readD,e]
def gt (id:Int):List PO→Nat
 | []=>0
 | x :: l=>if id<x.id then 0 else gt id l+1
def putO (o:PO) (l:List PO):List PO:=match idx o.id l with | some i=>l.set i o | none=>l.take (gt o.id l) ++ [o] ++ l.drop (gt o.id l)
def writeO (i j:Nat) (v:Val) (l:List PO):List PO:=l.modify i fun x=>⟨x.id,x.s.set j v⟩
def OkAt (l:List PO) (i:Nat) (x:PO):Prop:=0<x.id∧(0<i→∀ y,l[i - 1]?=some y→y.id<x.id)
def ValidP (l:List PO):Prop:=∀ (i:Nat) (x:PO),l[i]?=some x→OkAt l i x
open Classical in
noncomputable def validB (l:List PO):Bool:=decide (ValidP l)
open Classical in
open Classical in
theorem po_at {l:List Ob} {i:Nat} {x:Ob} (h:l[i]?=some x):(l.map Ob.po)[i]?=some x.po:=by rw [List.getElem?_map,h];rfl
theorem po_at' {l:List Ob} {i:Nat} {y:PO} (h:(l.map Ob.po)[i]?=some y):∃ x,l[i]?=some x∧y=x.po:=by
 rw [List.getElem?_map] at h
 cases hx:l[i]? with
 | none=>rw [hx] at h;cases h
 | some x=>rw [hx] at h;injection h with h;exact ⟨x,rfl,h.symm⟩
theorem readB_true {id f:Int} {l:List PO} (h:readB id f l=true):∃ (i j:Nat) (x:PO),idx id l=some i∧l[i]?=some x∧f=(j:Int)∧j<x.s.length:=by
 unfold readB readV at h
 split at h
 ·rename_i i hi
  split at h
  ·rename_i x hx
   split at h
   ·rename_i h0
    refine ⟨i,f.toNat,x,hi,hx,by omega,?_⟩
    cases hs:x.s[f.toNat]? with
    | none=>rw [hs] at h;cases h
    | some v=>exact (List.getElem?_eq_some_iff.1 hs).1
   ·cases h
  ·cases h
 ·cases h
def wroteL (id f:Int) (v:Val) (l:List PO):List PO:=if readB id f l=true then (match idx id l with | some i=>writeO i f.toNat v l | none=>[]) else []
theorem wrote_no {id f:Int} {v:Val} {l:List PO} (h:readB id f l=false):wroteL id f v l=[]:=by simp [wroteL,h]
theorem wrote_at {id:Int} {i j:Nat} {v:Val} {l:List PO} (h:readB id (j:Int) l=true) (hi:idx id l=some i):wroteL id (j:Int) v l=writeO i j v l:=by simp [wroteL,h,hi]
theorem writeO_set {i j:Nat} {v:Val}:∀ {l:List PO} {x:PO},l[i]?=some x→writeO i j v l=l.set i ⟨x.id,x.s.set j v⟩:=by
 intro l x hx
 unfold writeO
 apply List.ext_getElem?
 intro k
 rw [List.getElem?_modify,gs_]
 by_cases hik:i=k
 ·subst hik
  rw [hx,if_pos rfl,if_pos (List.getElem?_eq_some_iff.1 hx).1]
  simp
 ·rw [if_neg hik];simp [hik]
end Go.Proofs.YtfolidlmgfhkiaaGreat
namespace Go.Proofs.YtfolidlmgfhkiaaGreat
open Go.RowKit Go.Proofs.Tryz
structure Hp (w:World) (B:Nat) (A:OA) (n:Nat) (l:List Ob):Prop where
 sl:Sl w B 2 Ob.cells A n l
 obs:∀ o ∈ l,Sl w B 2 Val.cells o.A o.n o.s/\o.n<=8796093021952
section
variable {w w':World} {B B' n:Nat} {A:OA} {l:List Ob}
theorem Hp.below (h:Hp w B A n l) (hb:Below B w w'):Hp w' B A n l:=⟨h.sl.below hb,fun o ho=>⟨(h.obs o ho).1.below hb,(h.obs o ho).2⟩⟩
theorem Hp.mono (h:Hp w B A n l) (hB:B<=B'):Hp w B' A n l:=⟨h.sl.mono hB,fun o ho=>⟨(h.obs o ho).1.mono hB,(h.obs o ho).2⟩⟩
theorem Hp.up (h:Hp w w A n l) (hb:Below w w w'):Hp w' w' A n l:=(h.below hb).mono hb.size
end
theorem index_any (A:OA) (n c:Nat) (l:List Ob) (id:Int) (w:World) (hs:Sl w w 2 Ob.cells A n l) (hn:n<=9000000000000) :
  Calls prog 149 #[.agg #[.slice A n c],i_ id] w fun e w'=>e=.returned (i_ (idxI id (l.map Ob.po)))/\Below w w w':=by
 have HL:=q_ hs.len;go_enter func149,ntmps149;go_wp2;go_step3;go_wp2;go_step3;go_wp2;go_loopw [5,11] (fun f i wr=>∃ k:Nat,k<=n/\f=i_ (-1)/\i=i_ k/\Hid (∀ (i:Nat) (x:Ob),i<k->l[i]?=some x->x.id≠id)/\Below w w wr) (fun _ i _=>n - (intOf i).toNat)
 case atStart=>exact ⟨0,Nat.zero_le _,rfl,rfl,q_ (fun i x h=>absurd h o_),(bel (b_))⟩
 obtain ⟨k,hk,rfl,rfl,A1,hb⟩:=hrel;have A3:=hb.size;by_cases hlt:k<n
 ·obtain ⟨ab,ao,rfl,A2,A0⟩:=hs.at_ o_;obtain ⟨x,hx⟩:∃ x,l[k]?=some x:=⟨_,ge_ (by rw [HL.o];exact hlt)⟩;have c0:wr.cell? ⟨ab,ao+k*2,none⟩=some (i_ x.id):=(belc hb A2).trans (A0 k x hx 0 _ rfl);have c1:wr.cell? ⟨ab,ao+k*2+1,none⟩=some (.slice x.A x.n x.c):=(belc hb A2).trans (A0 k x hx 1 _ rfl);have HX:=q_ hx;clear A0 hx;by_cases he:x.id=id
  ·have HE:=q_ (show idxI id (l.map Ob.po)=k from by
    rw [idxI,idx_some (po_at HX.o) he (fun j y hj hy=>by obtain ⟨z,hz,rfl⟩:=po_at' hy;exact A1.o j z hj hz)])
   go_wp2;rw [Exit.noGoto_ret];go_ret;exact ⟨by rw [HE.o];rfl,(bel hb)⟩
  go_wp2;go_roundw
  case rel =>
   refine ⟨k+1,o_,rfl,by go_num,q_ (fun i y hi hy=>?_),(bel hb)⟩;by_cases hik:i=k
   ·subst hik;rw [HX.o] at hy;injection hy with hy;subst hy;exact he
   exact A1.o i y o_ hy
  case measure=>simp [intOf];omega
 obtain rfl:k=n:=by omega
 have HE:=q_ (show idxI id (l.map Ob.po)=-1 from by
  rw [idxI,idx_none (fun j y hy=>by
   obtain ⟨z,hz,rfl⟩:=po_at' hy
   exact A1.o j z (by have:=(e_ hz).1;rw [HL.o] at this;exact this) hz)])
 go_wp2;rw [Exit.noGoto_ret];go_ret;exact ⟨by rw [HE.o];rfl,hb⟩
theorem refat_any (A:OA) (n c:Nat) (l:List Ob) (id:Int) (w:World) (hs:Sl w w 2 Ob.cells A n l) (hn:n<=9000000000000) :
  Calls prog 57 #[.agg #[.slice A n c],i_ id] w fun e w'=>e=.returned (i_ (idxI id (l.map Ob.po)))/\Below w w w':=by
 have HL:=q_ hs.len;go_enter func57,ntmps57;go_wp2_with fail;go_loopw [10] (fun i wr=>∃ k:Nat,k<=n/\i=i_ k/\Hid (∀ (i:Nat) (x:Ob),i<k->l[i]?=some x->x.id≠id)/\Below w w wr) (fun i _=>n - (intOf i).toNat)
 case atStart=>exact ⟨0,Nat.zero_le _,rfl,q_ (fun i x h=>absurd h o_),(bel (b_))⟩
 obtain ⟨k,hk,rfl,A1,hb⟩:=hrel;have A3:=hb.size;by_cases hlt:k<n
 ·obtain ⟨ab,ao,rfl,A2,A0⟩:=hs.at_ o_;obtain ⟨x,hx⟩:∃ x,l[k]?=some x:=⟨_,ge_ (by rw [HL.o];exact hlt)⟩;have c0:wr.cell? ⟨ab,ao+k*2,none⟩=some (i_ x.id):=(belc hb A2).trans (A0 k x hx 0 _ rfl);have c1:wr.cell? ⟨ab,ao+k*2+1,none⟩=some (.slice x.A x.n x.c):=(belc hb A2).trans (A0 k x hx 1 _ rfl);have HX:=q_ hx;clear A0 hx;by_cases he:x.id=id
  ·have HE:=q_ (show idxI id (l.map Ob.po)=k from by
    rw [idxI,idx_some (po_at HX.o) he (fun j y hj hy=>by obtain ⟨z,hz,rfl⟩:=po_at' hy;exact A1.o j z hj hz)])
   go_wp2;go_ret;exact ⟨by rw [HE.o];rfl,(bel hb)⟩
  go_wp2;go_roundw
  case rel =>
   refine ⟨k+1,o_,by go_num,q_ (fun i y hi hy=>?_),(bel hb)⟩;by_cases hik:i=k
   ·subst hik;rw [HX.o] at hy;injection hy with hy;subst hy;exact he
   exact A1.o i y o_ hy
  case measure=>simp [intOf];omega
 obtain rfl:k=n:=by omega
 have HE:=q_ (show idxI id (l.map Ob.po)=-1 from by
  rw [idxI,idx_none (fun j y hy=>by
   obtain ⟨z,hz,rfl⟩:=po_at' hy
   exact A1.o j z (by have:=(e_ hz).1;rw [HL.o] at this;exact this) hz)])
 go_wp2;go_ret;exact ⟨by rw [HE.o];rfl,hb⟩
end Go.Proofs.YtfolidlmgfhkiaaGreat
namespace Go.Proofs.YtfolidlmgfhkiaaGreat
open Go.RowKit
def valT:List CT:=[.tru,.num]
def objT:List CT:=[.num,.sl valT]
def as_:List CT:=[.num,.num,.tru,.num]
def bl_:List CT:=[.num,.num,.num,.tru,.num]
def actT:List CT:=[.tru,.num,.num]
def regsT:List CT:=[.tru,.num,.tru,.num,.tru,.num,.tru,.num,.tru,.num,.tru,.num,.tru,.num,.tru,.num,.tru,.num,.tru,.num,.tru,.num,.tru,.num,.tru,.num,.tru,.num,.tru,.num,.tru,.num]
def cpuT:List CT:=.num :: regsT
def effT:List CT:=.num :: cpuT ++ [.sl as_,.sl as_,.sl objT,.sl bl_,.sl actT,.num,.tru,.tru,.num]
def ae_:List CT:=[.num,.num,.tru] ++ cpuT ++ [.sl as_,.sl as_,.sl as_,.sl objT,.sl bl_,.sl actT,.num,.num,.tru,.tru,.num,.num]
def comT:List CT:=[.sl objT,.num,.num,.sl actT,.tru,.tru,.tru,.num,.num,.num]
section
variable {X:NP} {w:World} {K:Nat}
theorem VTs.val {vs:VL} (h:VTs w X K valT vs):∃ x:Val,vs=x.cells:=by
 obtain ⟨a,r1,rfl,ha,h1⟩:=h.head;obtain ⟨b,r2,rfl,hb,h2⟩:=h1.head;obtain ⟨x,rfl⟩:=ha.bool;obtain ⟨y,rfl⟩:=hb.int;rw [h2.end];exact ⟨⟨x,y⟩,rfl⟩
theorem SlT.vals {A:OA} {n c:Nat} (h:SlT w X K valT A n c):∃ s:List Val,Sl w w 2 Val.cells A n s:=by
 obtain ⟨l,hl,_⟩:=h.list Val.cells (fun _=>True) (fun vs hv=>by obtain ⟨x,rfl⟩:=hv.val;exact ⟨x,rfl,trivial⟩);exact ⟨l,hl⟩
theorem VTs.obj {vs:VL} (h:VTs w X K objT vs):∃ x:Ob,vs=x.cells/\SlT w X K valT x.A x.n x.c/\Sl w w 2 Val.cells x.A x.n x.s:=by
 obtain ⟨a,r1,rfl,ha,h1⟩:=h.head;obtain ⟨b,r2,rfl,hb,h2⟩:=h1.head;obtain ⟨x,rfl⟩:=ha.int;obtain ⟨A,n,c,rfl,hs⟩:=hb.slice;rw [h2.end];obtain ⟨s,hS⟩:=hs.vals;exact ⟨⟨x,A,n,c,s⟩,rfl,hs,hS⟩
theorem SlT.hp {A:OA} {n c:Nat} (h:SlT w X K objT A n c) (hK:K<=8796093021952):∃ l:List Ob,Hp w w A n l/\∀ o ∈ l,SlT w X K valT o.A o.n o.c:=by
 obtain ⟨l,hl,hP⟩:=h.list Ob.cells (fun o=>(Sl w w 2 Val.cells o.A o.n o.s/\o.n<=8796093021952)/\SlT w X K valT o.A o.n o.c) (fun vs hv=>by
  obtain ⟨x,rfl,h1,h2⟩:=hv.obj
  exact ⟨x,rfl,⟨h2,Nat.le_trans h1.le hK⟩,h1⟩)
 exact ⟨l,⟨hl,fun o ho=>(hP o ho).1⟩,fun o ho=>(hP o ho).2⟩
theorem vts_val (x:Val):VTs w X K valT x.cells:=(VTs.cons (.tru _) (VTs.cons (.num _) VTs.nil))
theorem vts_ob {x:Ob} (h:SlT w X K valT x.A x.n x.c):VTs w X K objT x.cells:=VTs.cons (.num _) (VTs.cons h.vt VTs.nil)
def Form (A:OA) (n c z:Nat):Prop:=n<=c/\c<=9223372036854775807/\(A=none->n=0/\c=0)/\∀ ad,A=some ad->∃ g o,ad=(f_ g o)/\g<z
theorem form_own {base sz:Nat} {et:TypeId} {A:OA} {n c:Nat} {xs:VL} (ho:w.ownsRow base et sz (.slice A n c) n xs):Form A n c w:=by
 refine ⟨(dc_ ho).1,own_cap ho,fun hA=>⟨(own_src ho).1 hA,(dc_ ho).2 hA⟩,fun ad hA=>?_⟩;subst hA;rcases ho.2 with ⟨h',_⟩ | ⟨g,cap,cur,h',hbg,hg,_⟩
 ·cases h'
 injection h' with h1 _ _;injection h1 with h1;subst h1;refine ⟨g,0,rfl,?_⟩;rcases Nat.lt_or_ge g w with h2 | h2
 ·exact h2
 rw [Array.getElem?_eq_none h2] at hg;cases hg
theorem Form.mono {A:OA} {n c z z':Nat} (h:Form A n c z) (hz:z<=z'):Form A n c z':=⟨h.1,h.2.1,h.2.2.1,fun ad hA=>by obtain ⟨g,o,e,hg⟩:=h.2.2.2 ad hA;exact ⟨g,o,e,o_⟩⟩
theorem SlT.of_sl {α:Type} {e:List CT} {cells:α->VL} {B:Nat} {A:OA} {n c:Nat} {l:List α} (h:Sl w B e.length cells A n l) (hF:Form A n c w) (hX:∀ ad,A=some ad->¬X ad.block) (hn:n<=K) (hv:∀ x ∈ l,VTs w X K e (cells x)):SlT w X K e A n c:=by
 refine ⟨hn,hF.1,hF.2.1,hF.2.2.1,fun ad hA=>?_⟩;obtain ⟨g,o,rfl,hg⟩:=hF.2.2.2 ad hA;subst hA;refine ⟨g,o,rfl,hg,hX _ rfl,fun k j=>((l[k]?).bind fun x=>(cells x)[j]?).getD undef,fun k j t hk hj=>?_,fun k j t hk hj=>?_⟩
 ·obtain ⟨ab,ao,e1,A1,hc⟩:=h.at_ o_;injection e1 with e1;injection e1 with e1 e2;subst e1 e2;have hx:=ge_ (l:=l) (i:=k) (by rw [h.len];exact hk);obtain ⟨u,hu,_⟩:=(hv _ (List.mem_of_getElem? hx)).2 j t hj;have:=hc k _ hx j u hu;show _=some (((l[k]?).bind fun x=>(cells x)[j]?).getD undef)
  rw [this,hx];simp [hu]
 have hx:=ge_ (l:=l) (i:=k) (by rw [h.len];exact hk);obtain ⟨u,hu,A0⟩:=(hv _ (List.mem_of_getElem? hx)).2 j t hj;show VT w X K t (((l[k]?).bind fun x=>(cells x)[j]?).getD undef)
 rw [hx];simp [hu];exact A0
theorem SlT.of_vals {B:Nat} {A:OA} {n c:Nat} {s:List Val} (h:Sl w B 2 Val.cells A n s) (hF:Form A n c w) (hX:∀ ad,A=some ad->¬X ad.block) (hn:n<=K):SlT w X K valT A n c :=
 SlT.of_sl (e:=valT) h hF hX hn (fun x _=>vts_val x)
def RH (X:NP) (K:Nat) (e:Ending) (w:World):Prop:=∃ (A:OA) (n c:Nat),e=.returned (.agg #[.slice A n c])/\Hid (SlT w X K objT A n c)
def RHB (X:NP) (K:Nat) (e:Ending) (w:World):Prop:=∃ (A:OA) (n c:Nat) (b:Bool),e=.returned (.tuple #[.agg #[.slice A n c],.bool b])/\Hid (SlT w X K objT A n c)
end
end Go.Proofs.YtfolidlmgfhkiaaGreat
namespace Go.Proofs.YtfolidlmgfhkiaaGreat.Dl
open Go.RowKit
structure Pr where
 a:Int
 b:Int
 cnt:Int
def Pr.cells (t:Pr):VL:=[i_ t.a,i_ t.b,i_ t.cnt]
theorem Pr.size (t:Pr):t.cells.length=3:=rfl
def Bef (t:Pr) (a b:Int):Prop:=t.a<a∨t.a=a/\t.b<b
instance (t:Pr) (a b:Int):Decidable (Bef t a b):=by unfold Bef;infer_instance
def lowb:List Pr->Int->Int->Nat
 | [],_,_=>0
 | t :: l,a,b=>if Bef t a b then lowb l a b+1 else 0
def Sorted (ts:List Pr):Prop:=∀ (i j:Nat) (u v:Pr),i<j->ts[i]?=some u->ts[j]?=some v->Bef u v.a v.b
def isB (t:Pr) (a b:Int):Bool:=t.a == a && t.b == b
def hit (ts:List Pr) (a b:Int):Bool:=match ts[lowb ts a b]? with | some t=>isB t a b | none=>false
theorem lowb_le:∀ (ts:List Pr) (a b:Int),lowb ts a b<=ts.length
 | [],_,_=>l_
 | t :: l,a,b=>by unfold lowb;split <;> simp;exact lowb_le l a b
theorem lowb_lt:∀ (ts:List Pr) (a b:Int) (j:Nat) (u:Pr),j<lowb ts a b->ts[j]?=some u->Bef u a b
 | [],_,_,_,_,h,_=>by simp [lowb] at h
 | t :: l,a,b,j,u,h,hu=>by
  unfold lowb at h;split at h
  ·rename_i hk
   cases j with
   | zero=>simp at hu;subst hu;exact hk
   | succ j=>exact lowb_lt l a b j u o_ (by simpa using hu)
  omega
theorem lowb_ge:∀ (ts:List Pr) (a b:Int) (t:Pr),ts[lowb ts a b]?=some t->¬Bef t a b
 | [],_,_,_,h=>by simp [lowb] at h
 | t :: l,a,b,u,h=>by
  unfold lowb at h;split at h
  ·exact lowb_ge l a b u (by simpa using h)
  simp at h;subst h;assumption
theorem lowb_of {ts:List Pr} {a b:Int} {i:Nat} (hi:i<=ts.length) (hlo:∀ (j:Nat) (u:Pr),j<i->ts[j]?=some u->Bef u a b) (hhi:∀ t:Pr,ts[i]?=some t->¬Bef t a b):lowb ts a b=i:=by
 rcases Nat.lt_trichotomy (lowb ts a b) i with h | h | h
 ·have hl:lowb ts a b<ts.length:=by omega
  exact absurd (hlo _ _ h (ge_ hl)) (lowb_ge ts a b _ (ge_ hl))
 ·exact h
 have:=lowb_le ts a b;have hl:i<ts.length:=by omega
 exact absurd (lowb_lt ts a b i _ h (ge_ hl)) (hhi _ (ge_ hl))
theorem hit_at {ts:List Pr} {a b:Int} {t:Pr} (h:ts[lowb ts a b]?=some t):hit ts a b=isB t a b:=by unfold hit;rw [h]
theorem hit_none {ts:List Pr} {a b:Int} (h:ts.length<=lowb ts a b):hit ts a b=false:=by unfold hit;rw [List.getElem?_eq_none h]
theorem hit_some {ts:List Pr} {a b:Int} (h:hit ts a b=true):∃ t,ts[lowb ts a b]?=some t/\t.a=a/\t.b=b:=by
 unfold hit at h;split at h
 ·rename_i t ht
  refine ⟨t,ht,?_⟩
  simpa [isB] using h
 cases h
def Good (ts:List Pr):Prop:=Sorted ts/\∀ (i:Nat) (t:Pr),ts[i]?=some t->1<=t.cnt/\t.cnt<=1048576
def upd (t:Pr):Pr:=⟨t.a,t.b,if t.cnt<=1048575 then t.cnt+1 else 1048576⟩
def train (ts:List Pr) (a b:Int):List Pr :=
 if hit ts a b then ts.modify (lowb ts a b) upd else if ts.length<256 then ts.take (lowb ts a b) ++ ⟨a,b,1⟩ :: ts.drop (lowb ts a b) else ts
def countP (ts:List Pr) (a b:Int):Int:=if hit ts a b then (match ts[lowb ts a b]? with | some t=>t.cnt | none=>0) else 0
theorem count_hit {ts:List Pr} {a b:Int} {t:Pr} (h:ts[lowb ts a b]?=some t) (hh:hit ts a b=true):countP ts a b=t.cnt:=by simp [countP,hh,h]
theorem count_miss {ts:List Pr} {a b:Int} (hh:hit ts a b=false):countP ts a b=0:=by simp [countP,hh]
theorem good_nil:Good []:=⟨fun i j u v _ h _=>by simp at h,fun i t h=>by simp at h⟩
end Go.Proofs.YtfolidlmgfhkiaaGreat.Dl
