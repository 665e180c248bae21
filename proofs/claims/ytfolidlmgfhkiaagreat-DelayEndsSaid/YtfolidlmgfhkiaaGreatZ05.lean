/- Lemmas: each says what a function of the program leaves, under the conditions that it states. -/
import Derived.Test.YtfolidlmgfhkiaaGreatZ04
import Derived.Stop.RegionWithIn
import Derived.Shelf.Abstract
import Derived.RangeFuncBox
set_option linter.unusedVariables false
set_option linter.unusedSimpArgs false
set_option maxRecDepth 100000
set_option maxHeartbeats 4000000
namespace Go.Proofs.YtfolidlmgfhkiaaGreat.Dl
open Go.RowKit Go.Shelf
attribute [local go_sem] Oper.semAt_some
theorem backward_any (A:OA) (n c:Nat) (w:World) :
  Calls Tryz.prog 67 #[.slice A n c] w fun e w'=>e=.returned (.func (.func 107) #[] #[.pointer (some (a_ w))])/\w'=w.alloc (.cells #[.slice A n c] 41):=by
 go_enter Tryz.func67,Tryz.ntmps67;go_wp2;go_ret;exact ⟨rfl,rfl⟩
def cnd (ts:List Pr) (thr st:Int) (t:Tk):Bool:=(t.status == 0 || t.status == 1) && decide (thr<=countP ts t.start st)
def waitsP (ts:List Pr) (l:List Tk) (k:Nat) (thr st:Int):Int:=match (rvTo l k).find? (fun x=>cnd ts thr st x.2) with | some x=>x.1 | none=>-1
theorem rvTo_take (l:List Tk) (k:Nat):∀ j,j<=k->rvTo (l.take k) j=rvTo l j
 | 0,_=>rfl
 | j+1,h=>by
  unfold rvTo;rw [List.getElem?_take,if_pos o_,rvTo_take l k j o_]
theorem find_none {α:Type} {p:α->Bool}:∀ {l:List α},(∀ x ∈ l,p x=false)->l.find? p=none
 | [],_=>rfl
 | y :: l,h=>by rw [List.find?_cons,h y t_];exact find_none fun x hx=>h x (by simp [hx])
theorem find_at {α:Type} {p:α->Bool} {x:α} {r:List α} (hx:p x=true):∀ {q:List α},(∀ y ∈ q,p y=false)->(q ++ x :: r).find? p=some x
 | [],_=>by rw [List.nil_append,List.find?_cons,hx]
 | y :: q,h=>by rw [List.cons_append,List.find?_cons,h y t_];exact find_at hx fun z hz=>h z (by simp [hz])
theorem mem_snoc {α:Type} {p:α->Prop} {q:List α} {x:α} (h:∀ y ∈ q,p y) (hx:p x):∀ y ∈ q ++ [x],p y:=fun y hy=>by
 rcases List.mem_append.1 hy with h1 | h1
 ·exact h y h1
 obtain rfl:=List.mem_singleton.1 h1;exact hx
theorem cz_ {B:Nat} {W W':World} (h:Below W W W'):KeepsFrom B W W':=⟨h.size,fun k _ _ hk _=>(h.block k (Array.getElem?_eq_some_iff.1 hk).1).trans hk⟩
theorem keeps_set {B b:Nat} {W:World} (hb:b<B) (v:Value):KeepsFrom B W (W.setCell (a_ b) v):=⟨by simp,fun k _ hB hk _=>(Below.heap_setCell _ _ _ k (by show k≠b;omega)).trans hk⟩
theorem blk_cell {W:World} {b:Nat} {c:VL} {t:TypeId} (h:W.heap[b]?=some (.cells c.toArray t (0,0))) {j:Nat} {u:Value} (hu:c[j]?=some u):W.cell? (f_ b j)=some u:=by
 rw [cell_of_row W b j c.toArray t (0,0) h,List.getElem?_toArray];exact hu
theorem waits_any (A:OA) (n c:Nat) (ts:List Pr) (B:OA) (m d:Nat) (l:List Tk) (k:Nat) (thr:Int) (s:Tk) (w:World) (hs:Sl w w 3 Pr.cells A n ts) (hsort:Sorted ts) (hn:n<=900000)
  (hl:Sl w w 48 Tk.cells B m l) (hm:m<=900000) (hd:m<=d) (hk:l[k]?=some s) (hth:1<=thr) :
  Calls Tryz.prog 32 #[.agg #[.slice A n c],.slice B m d,i_ k,i_ thr] w fun e w'=>e=.returned (i_ (waitsP ts l k thr s.start))/\Below w w w':=by
 have AE:k<m:=by rw [←hl.len];exact (e_ hk).1
 obtain ⟨ab,ao,rfl,AA,Am⟩:=hl.at_ o_;have HK:=q_ hk;have HS:=q_ hsort;have Ar:=q_ hs;have Ak:=q_ hl;have Az:k<=d:=by omega
 have AD:(k:Int)<(m:Int):=by omega
 have AH:∀ w',(Instr.slice 41 (.slice (some (f_ ab ao)) m d) none (some (i_ (k:Int))) none).run Tryz.prog w'=.ok (.slice (some (f_ ab ao)) k d) w':=slice_high (i:=(Tryz.prog.info? 65).get!) Tryz.underlying41 k_ Az;have cs:w.cell? ⟨ab,ao+k*48,none⟩=some (i_ s.start):=Am k s hk 0 _ s.c0;clear Am hk hsort;refine (callsIn_wide (n:=7)).1 ?_;refine callsIn_of_wp_marks Tryz.func32 rfl trivial ?_ rfl;simp only [Tryz.ntmps32,List.size_toArray,List.length_cons,List.length_nil,Nat.reduceAdd,Nat.reduceSub,Array.replicate_succ,Array.replicate_zero,List.push_toArray,List.append_toArray,List.nil_append,List.cons_append]
 gi_wp2_with fail
 refine ⟨trivial,?_⟩;refine (callsIn_wide.2 (backward_any (some (f_ ab ao)) k d _)).mono ?_;rintro e w' ⟨rfl,rfl⟩;obtain ⟨U,hU⟩:=ex_ ((((((w.alloc (.cells #[.slice A n c] 73)).alloc (.cells #[.slice (some (f_ ab ao)) m d] 41)).alloc (.cells #[i_ k] 3)).alloc (.cells #[i_ thr] 3)).alloc (.cells #[i_ 0] 3)).alloc (.cells #[.slice (some (f_ ab ao)) k d] 41));rw [←hU];have Ap:(U:Nat)=w+6:=by rw [hU];simp
 have Ag:Below w w U:=by rw [hU];exact (bel (b_))
 have b4:U.cell? (a_ w)=some (.slice A n c):=(by rw [hU,ak_ _ _ _ _ y_,ak_ _ _ _ _ y_,ak_ _ _ _ _ y_,ak_ _ _ _ _ y_,ak_ _ _ _ _ y_,aj_ _ _ _ _ _ y_];rfl);have b5:U.cell? (a_ (w+1))=some (.slice (some (f_ ab ao)) m d):=(by rw [hU,ak_ _ _ _ _ y_,ak_ _ _ _ _ y_,ak_ _ _ _ _ y_,ak_ _ _ _ _ y_,aj_ _ _ _ _ _ y_];rfl);have b6:U.cell? (a_ (w+2))=some (i_ k):=(by rw [hU,ak_ _ _ _ _ y_,ak_ _ _ _ _ y_,ak_ _ _ _ _ y_,aj_ _ _ _ _ _ y_];rfl);have b7:U.cell? (a_ (w+3))=some (i_ thr):=(by rw [hU,ak_ _ _ _ _ y_,ak_ _ _ _ _ y_,aj_ _ _ _ _ _ y_];rfl);have b8:U.cell? (a_ (w+4))=some (i_ 0):=(by rw [hU,ak_ _ _ _ _ y_,aj_ _ _ _ _ _ y_];rfl);have A9:U.frozen? (a_ (w+4))=false:=(by rw [hU,ei_ _ _ _ _ y_,bx_ _ _ _ _ _ y_]);have b9:U.cell? (a_ (w+5))=some (.slice (some (f_ ab ao)) k d):=(by rw [hU,aj_ _ _ _ _ _ y_];rfl);have HB:=h_ (U.cell? (a_ w)=some (.slice A n c)/\U.cell? (a_ (w+1))=some (.slice (some (f_ ab ao)) m d)/\U.cell? (a_ (w+2))=some (i_ k)/\U.cell? (a_ (w+3))=some (i_ thr)/\U.cell? (a_ (w+4))=some (i_ 0)/\U.frozen? (a_ (w+4))=false) (⟨b4,b5,b6,b7,b8,A9⟩);have A1:=q_ Ap;have Ai:=q_ Ag;have Aq:=q_ cs;have Ab:Sl U (w+6) 48 Tk.cells (some (f_ ab ao)) k (l.take k):=⟨by rw [List.length_take];have:=Ak.o.len;omega,fun _=>by
  obtain ⟨Au,Av,e,h1,h2⟩:=(Ak.o.below Ag).at_ o_
  exact ⟨Au,Av,e,o_,fun i x hx j u hu=>h2 i x (by rw [List.getElem?_take] at hx;split at hx;exact hx;cases hx) j u hu⟩⟩
 have As:=q_ Ab;have g1:decide (thr<1)=false:=by simpa using hth
 have g2:decide ((k:Int)<0)=false:=by simp
 have AG:(w+1+1+1+1+1:Nat)=(w:Nat)+5:=by omega
 clear hU b4 b5 b6 b7 b8 A9 Ab cs Ap Ag
 gi_wp2
 refine wpIn_rangeFunc_ownH rfl o_ (gf:=107) (lb:=#[.pointer (some (a_ (w+5)))]) rfl trivial (enters_of Tryz.func107 k_ rfl)
  (back_stops 6 (w+6) (w+5) o_ (some (f_ ab ao)) k d (l.take k) o_ o_ U (by rw [A1.o];omega) b9 As.o) belowK_t (belowK_b (by rw [A1.o];omega)) (b_) (fun _=>rfl)
  (fun A4 W=>(∀ x ∈ A4,cnd ts thr s.start x.2=false)/\Below (w+6) U W)
  (fun e A4 W=>(e=.ret/\(∃ x q,A4=q ++ [x]/\(∀ y ∈ q,cnd ts thr s.start y.2=false)/\cnd ts thr s.start x.2=true/\W.cell? (a_ (w+4))=some (i_ x.1)))/\Below w w W)
  (OwnFrom.and (ownFrom_pure _ _) (ownFrom_below (by rw [A1.o];omega) (by rw [A1.o];omega)))
  (fun e=>OwnFrom.and (Own.from (fun s X Y row hs hg hr=>by
   obtain ⟨h1,x,q,h2,h3,h4,h5⟩:=hs
   exact ⟨h1,x,q,h2,h3,h4,cell_kept h5 hg hr⟩) _) (ownFrom_below (l_) (by rw [A1.o];omega)))
  ⟨by simp,b_⟩
  (fun x a' W=>∃ Bx,w.heap.size+6<=Bx/\W.heap[Bx]?=some (.cells x.2.cells.toArray 65 (0,0))/\a'={ tmps:=#[.agg #[.slice A n c],.slice (some (f_ ab ao)) m d,i_ k,i_ thr,.pointer (some (a_ w.heap.size)),.pointer (some (a_ (w.heap.size+1))),.pointer (some ⟨w.heap.size+1+1,0,none⟩),.pointer (some ⟨w.heap.size+1+1+1,0,none⟩),.pointer (some ⟨w.heap.size+1+1+1+1,0,none⟩),i_ x.1,.pointer (some (a_ Bx)),i_ thr,.bool false,.bool false,i_ k,.bool false,.bool false,.bool false,i_ k,.slice (some (f_ ab ao)) m d,i_ m,.bool false,.bool false,.slice (some (f_ ab ao)) m d,i_ k,.slice (some (f_ ab ao)) k d,.func (.func 107) #[] #[.pointer (some ⟨w.heap.size+1+1+1+1+1,0,none⟩)],i_ x.1,.agg x.2.cells.toArray,undef,undef,undef,undef,undef,undef,undef,undef,undef,undef,undef,undef,undef,undef,undef,undef,undef,undef,undef,undef,undef,undef],defers:=[] })
  (fun x a' _ X Y row hs hg hr=>by
   obtain ⟨Bx,h1,h2,h3⟩:=hs
   refine ⟨Bx,h1,(hg.block Bx (Array.getElem?_eq_some_iff.1 h2).1 (fun e=>?_)).trans h2,h3⟩
   obtain ⟨_,o,ho,hc⟩:=hr Bx e.symm
   rw [h2] at ho
   injection ho with ho
   subst ho
   cases hc)
  ?assign ?body ?done ?stop
 case assign =>
  rintro lp A4 x W K ⟨A6,hB⟩ hK;have A7:=A1.o;unfold tkv
  gi_wp2_with (with_reducible refine wpListIn_store_tk rfl (.tmp 10) (.tmp 28) rfl x.2 t_ v_ v_ ?_)
  exact hK _ _ ((KeepsOthers.alloc _ _).from _) ((Below.refl _ W).alloc (by have:=hB.size;omega) _) ⟨A6,hB.alloc (by have:=hB.size;omega) _⟩ ⟨W,by have:=hB.size;omega,heap_new W _,rfl⟩
 case body =>
  rintro lp A4 x a' W hl _ ⟨A6,hB⟩ ⟨Bx,AC,bX,rfl⟩ AF;have A7:=A1.o;have AB:=hB.size;have b4:=(belc hB o_).trans HB.o.1;have b5:=(belc hB o_).trans HB.o.2.1;have b6:=(belc hB o_).trans HB.o.2.2.1;have b7:=(belc hB o_).trans HB.o.2.2.2.1;have b8:=(belc hB o_).trans HB.o.2.2.2.2.1;have A9:=(belf hB (b:=w+4) (o:=0) o_).trans HB.o.2.2.2.2.2;have Ad:=Ai.o.trans (hB.mono o_);have cs:=(belc Ad AA).trans Aq.o;have x0:=blk_cell bX x.2.c0;have A8:=blk_cell bX x.2.c42;have A2:Bx<W:=(Array.getElem?_eq_some_iff.1 bX).1;have An:=Ar.o.up (Below.drew Ad);have HX:=q_ An;have A3:=q_ A6;have Aj:=q_ Ad;have Af:=q_ hB;clear An A6 Ad bX hB;by_cases hst:x.2.status=0
  ·have Ac:(x.2.status == 0)=true:=by simp [hst]
   rw [hst] at A8
   gi_wp2
   refine region_round (S:=fun w'=>w'.cell? (a_ w)=some (.slice A n c)/\w'.cell? (a_ (w+1))=some (.slice (some (f_ ab ao)) m d)/\w'.cell? (a_ (w+2))=some (i_ k)/\w'.cell? (a_ (w+3))=some (i_ thr)/\w'.cell? ⟨ab,ao+k*48,none⟩=some (i_ s.start)/\w'.cell? (a_ Bx)=some (i_ x.2.start)/\w'.cell? (f_ Bx 42)=some (i_ 0)) k_ k_ (fun _ _ h=>h) ⟨b4,b5,b6,b7,cs,x0,A8⟩ (fun _=>?_);refine aa_ 0 29 ?_;refine aa_ 1 30 ?_;refine aa_ 2 31 ?_;refine aa_ 3 32 ?_;refine ag_ 4 33 ?_;refine ag_ 5 34 ?_;refine ag_ 6 35 ?_;refine aa_ 7 36 ?_;refine aa_ 8 37 ?_;refine aa_ 9 38 ?_;refine aa_ 10 39 ?_;refine aa_ 11 40 ?_;refine aa_ 12 41 ?_;refine aa_ 13 42 ?_;refine aa_ 14 43 ?_;refine aa_ 15 44 ?_;refine aa_ 16 45 ?_;refine aa_ 18 47 ?_;refine wpAnyH_ready (rs:=[17]) k_ t_ ?_;refine AllReadyH.cons rfl (fun K hK=>?_) AllReadyH.nil;go_simp;refine (ew_ A n c ts x.2.start s.start W.drew HX.o HS.o o_).mono ?_;rintro e w1 ⟨rfl,A0⟩;have A0:Below W W w1:=(Below.drew (b_)).trans A0;refine hK.out _ _ ⟨(belc A0 o_).trans b4,(belc A0 o_).trans b5,(belc A0 o_).trans b6,(belc A0 o_).trans b7,(belc A0 o_).trans cs,(belc A0 A2).trans x0,(belc A0 A2).trans A8⟩ (fun A5=>?_);refine aa_ 19 48 ?_;refine aa_ 20 49 ?_;refine wpAnyH_done k_ ?_ _;by_cases hge:thr<=countP ts x.2.start s.start
   ·have Ay:=q_ hge;have c8:=(belc A0 o_).trans b8;have Aw:=(belf A0 (b:=w+4) (o:=0) o_).trans A9;have HC:=h_ (cnd ts thr s.start x.2=true) (by unfold cnd;simp [hst,hge])
    gi_wp2
    exact ⟨(cz_ A0).trans (keeps_set o_ _),⟨rfl,x,A4,rfl,A3.o,HC.o,World.cell?_setCell_same _ _ _ c8⟩,(Aj.o.trans (A0.mono o_)).setCell (by show _<=_;simp <;> omega) _⟩
   have Ah:countP ts x.2.start s.start<thr:=by omega
   have HC:=h_ (cnd ts thr s.start x.2=false) (by unfold cnd;simp [hst,hge])
   gi_wp2
   exact ⟨cz_ A0,A0.mono o_,(by first | exact fun y hy=>mem_snoc (p:=fun y:Nat × Tk=>cnd ts thr s.start y.2=false) A3.o HC.o y hy | exact fun a b hy=>mem_snoc (p:=fun y:Nat × Tk=>cnd ts thr s.start y.2=false) A3.o HC.o (a,b) hy),Af.o.trans (A0.mono o_)⟩
  by_cases hst1:x.2.status=1
  ·have Ac:(x.2.status == 1)=true:=by simp [hst1]
   rw [hst1] at A8
   gi_wp2
   refine region_round (S:=fun w'=>w'.cell? (a_ w)=some (.slice A n c)/\w'.cell? (a_ (w+1))=some (.slice (some (f_ ab ao)) m d)/\w'.cell? (a_ (w+2))=some (i_ k)/\w'.cell? (a_ (w+3))=some (i_ thr)/\w'.cell? ⟨ab,ao+k*48,none⟩=some (i_ s.start)/\w'.cell? (a_ Bx)=some (i_ x.2.start)/\w'.cell? (f_ Bx 42)=some (i_ 1)) k_ k_ (fun _ _ h=>h) ⟨b4,b5,b6,b7,cs,x0,A8⟩ (fun _=>?_);refine aa_ 0 29 ?_;refine aa_ 1 30 ?_;refine aa_ 2 31 ?_;refine aa_ 3 32 ?_;refine aa_ 4 33 ?_;refine aa_ 5 34 ?_;refine aa_ 6 35 ?_;refine aa_ 7 36 ?_;refine aa_ 8 37 ?_;refine aa_ 9 38 ?_;refine aa_ 10 39 ?_;refine aa_ 11 40 ?_;refine aa_ 12 41 ?_;refine aa_ 13 42 ?_;refine aa_ 14 43 ?_;refine aa_ 15 44 ?_;refine aa_ 16 45 ?_;refine aa_ 18 47 ?_;refine wpAnyH_ready (rs:=[17]) k_ t_ ?_;refine AllReadyH.cons rfl (fun K hK=>?_) AllReadyH.nil;go_simp;refine (ew_ A n c ts x.2.start s.start W.drew HX.o HS.o o_).mono ?_;rintro e w1 ⟨rfl,A0⟩;have A0:Below W W w1:=(Below.drew (b_)).trans A0;refine hK.out _ _ ⟨(belc A0 o_).trans b4,(belc A0 o_).trans b5,(belc A0 o_).trans b6,(belc A0 o_).trans b7,(belc A0 o_).trans cs,(belc A0 A2).trans x0,(belc A0 A2).trans A8⟩ (fun A5=>?_);refine aa_ 19 48 ?_;refine aa_ 20 49 ?_;refine wpAnyH_done k_ ?_ _;by_cases hge:thr<=countP ts x.2.start s.start
   ·have Ay:=q_ hge;have c8:=(belc A0 o_).trans b8;have Aw:=(belf A0 (b:=w+4) (o:=0) o_).trans A9;have HC:=h_ (cnd ts thr s.start x.2=true) (by unfold cnd;simp [hst1,hge])
    gi_wp2
    exact ⟨(cz_ A0).trans (keeps_set o_ _),⟨rfl,x,A4,rfl,A3.o,HC.o,World.cell?_setCell_same _ _ _ c8⟩,(Aj.o.trans (A0.mono o_)).setCell (by show _<=_;simp <;> omega) _⟩
   have Ah:countP ts x.2.start s.start<thr:=by omega
   have HC:=h_ (cnd ts thr s.start x.2=false) (by unfold cnd;simp [hst1,hge])
   gi_wp2
   exact ⟨cz_ A0,A0.mono o_,(by first | exact fun y hy=>mem_snoc (p:=fun y:Nat × Tk=>cnd ts thr s.start y.2=false) A3.o HC.o y hy | exact fun a b hy=>mem_snoc (p:=fun y:Nat × Tk=>cnd ts thr s.start y.2=false) A3.o HC.o (a,b) hy),Af.o.trans (A0.mono o_)⟩
  have Ac:(x.2.status == 0)=false:=by simp [hst]
  have Ao:(x.2.status == 1)=false:=by simp [hst1]
  gi_wp2
  refine region_round (S:=fun w'=>w'.cell? (a_ w)=some (.slice A n c)/\w'.cell? (a_ (w+1))=some (.slice (some (f_ ab ao)) m d)/\w'.cell? (a_ (w+2))=some (i_ k)/\w'.cell? (a_ (w+3))=some (i_ thr)/\w'.cell? ⟨ab,ao+k*48,none⟩=some (i_ s.start)/\w'.cell? (a_ Bx)=some (i_ x.2.start)/\w'.cell? (f_ Bx 42)=some (i_ x.2.status)) k_ k_ (fun _ _ h=>h) ⟨b4,b5,b6,b7,cs,x0,A8⟩ (fun _=>?_);refine aa_ 0 29 ?_;refine aa_ 1 30 ?_;refine aa_ 2 31 ?_;refine aa_ 3 32 ?_;refine aa_ 4 33 ?_;refine aa_ 5 34 ?_;refine aa_ 6 35 ?_;refine aa_ 7 36 ?_;refine aa_ 8 37 ?_;refine ag_ 9 38 ?_;refine ag_ 10 39 ?_;refine ag_ 11 40 ?_;refine ag_ 12 41 ?_;refine ag_ 13 42 ?_;refine ag_ 14 43 ?_;refine ag_ 15 44 ?_;refine ag_ 16 45 ?_;refine ag_ 17 46 ?_;refine ag_ 18 47 ?_;refine ag_ 19 48 ?_;refine aa_ 20 49 ?_;refine wpAnyH_done k_ ?_ _;have HC:=h_ (cnd ts thr s.start x.2=false) (by unfold cnd;simp [hst,hst1])
  gi_wp2
  exact ⟨cz_ (Below.drew (b_)),Below.drew (b_),(by first | exact fun y hy=>mem_snoc (p:=fun y:Nat × Tk=>cnd ts thr s.start y.2=false) A3.o HC.o y hy | exact fun a b hy=>mem_snoc (p:=fun y:Nat × Tk=>cnd ts thr s.start y.2=false) A3.o HC.o (a,b) hy),Below.drew Af.o⟩
 case done =>
  rintro D ys W hD rfl ⟨A6,hB⟩ hK;have A7:=A1.o;have AB:=hB.size;have b8:=(belc hB o_).trans HB.o.2.2.2.2.1;have A9:=(belf hB (b:=w+4) (o:=0) o_).trans HB.o.2.2.2.2.2;have HW:=q_ (show waitsP ts l k thr s.start=-1 from by
   unfold waitsP
   rw [find_none (fun x hx=>A6 x (by rw [rvTo_take l k k (l_)];exact hx))])
  have Ae:=q_ hB;have HK:=q_ hK;clear A6 hB hK
  gi_wp2
  have Al:(W.setCell (a_ (w+4)) (i_ (-1))).heap[D]?=some (.deferred (some [])):=(Below.heap_setCell _ _ _ D (by show D≠w+4;omega)).trans HK.o;have Ax:Below w w (W.setCell (a_ (w+4)) (i_ (-1))):=(Ai.o.trans (Ae.out.mono o_)).setCell (by show _<=(w:Nat)+4;omega) _;have hc:((W.setCell (a_ (w+4)) (i_ (-1))).putObj D (.deferred none)).cell? (a_ (w+4))=some (i_ (-1)):=(World.cell?_of_block (World.putObj_heap_other (by show w+4≠D;omega))).trans (World.cell?_setCell_same _ _ _ b8);refine ⟨by simp,.inl ⟨_,_,rfl,run_takeDeferred Al,i_ (-1),?_,?_⟩⟩
  ·simp [results,Tryz.results32,go_sem,hc]
  exact ⟨by rw [HW.o],Ax.trans (belowK_b (w:=w) (l_) _ D _ _ o_ Al rfl rfl)⟩
 rintro D e A4 W hD Aa ⟨⟨rfl,x,q,rfl,hq,hx,hc⟩,hB⟩ hK;have HW:=q_ (show waitsP ts l k thr s.start=x.1 from by
  obtain ⟨r,hr⟩:=Aa
  unfold waitsP
  rw [←rvTo_take l k k (l_),←hr,List.append_assoc,List.singleton_append,find_at (p:=fun y:Nat × Tk=>cnd ts thr s.start y.2) hx hq])
 have HK:=q_ hK;have Ae:=q_ hB;have A7:=A1.o;clear hq hx Aa hK hB
 gi_wp2
 have hc:(W.putObj D (.deferred none)).cell? (a_ (w+4))=some (i_ x.1):=(World.cell?_of_block (World.putObj_heap_other (by show w+4≠D;omega))).trans hc;refine ⟨by simp,.inl ⟨_,_,rfl,run_takeDeferred HK.o,i_ x.1,?_,?_⟩⟩
 ·simp [results,Tryz.results32,go_sem,hc]
 exact ⟨by rw [HW.o],Ae.out.trans (belowK_b (w:=w) (l_) W D _ _ o_ HK.o rfl rfl)⟩
end Go.Proofs.YtfolidlmgfhkiaaGreat.Dl
namespace Go.Proofs.YtfolidlmgfhkiaaGreat.Dl
open Go.RowKit
theorem bef_trans {t u:Pr} {a b:Int} (h:Bef t u.a u.b) (h2:Bef u a b):Bef t a b:=by
 unfold Bef at *;omega
theorem lowb_at {ts:List Pr} (hs:Sorted ts) {i:Nat} {t:Pr} (ht:ts[i]?=some t):lowb ts t.a t.b=i:=by
 refine lowb_of (Nat.le_of_lt (e_ ht).1) (fun j u hj hu=>hs j i u t hj hu ht) (fun u hu=>?_);rw [ht] at hu;injection hu with hu;subst hu;unfold Bef;omega
theorem count_at {ts:List Pr} (hs:Sorted ts) {i:Nat} {t:Pr} (ht:ts[i]?=some t):countP ts t.a t.b=t.cnt:=by
 have hl:=lowb_at hs ht;have h:ts[lowb ts t.a t.b]?=some t:=by rw [hl];exact ht
 exact count_hit h (by rw [hit_at h];simp [isB])
theorem count_some {ts:List Pr} {a b:Int} (h:countP ts a b≠0):∃ (i:Nat) (t:Pr),ts[i]?=some t/\t.a=a/\t.b=b/\countP ts a b=t.cnt:=by
 cases hh:hit ts a b
 ·exact absurd (count_miss hh) h
 obtain ⟨t,ht,h1,h2⟩:=hit_some hh;exact ⟨_,t,ht,h1,h2,count_hit ht hh⟩
theorem sorted_pw {ts:List Pr}:Sorted ts↔ts.Pairwise (fun u v=>Bef u v.a v.b):=by
 rw [List.pairwise_iff_getElem];constructor
 ·intro h i j hi hj A0;exact h i j _ _ A0 (ge_ hi) (ge_ hj)
 intro h i j u v A0 hu hv;obtain ⟨hi,rfl⟩:=e_ hu;obtain ⟨hj,rfl⟩:=e_ hv;exact h i j hi hj A0
theorem decay_sorted {ts:List Pr} (h:Sorted ts):Sorted (dw_ ts):=by
 rw [sorted_pw] at h ⊢;exact (List.Pairwise.map half (fun a b A0=>A0) h).filter _
theorem mem_at {ts:List Pr} {t:Pr}:t ∈ ts↔∃ i:Nat,ts[i]?=some t:=List.mem_iff_getElem?
theorem count_mem {ts:List Pr} (hs:Sorted ts) {t:Pr} (ht:t ∈ ts):countP ts t.a t.b=t.cnt:=by
 obtain ⟨i,hi⟩:=mem_at.1 ht;exact count_at hs hi
def Most (ts:List Pr) (N:Int):Prop:=∀ t ∈ ts,t.cnt<=N
theorem mem_take_at {ts:List Pr} {k:Nat} {t:Pr} (h:t ∈ ts.take k):∃ i,i<k/\ts[i]?=some t:=by
 obtain ⟨i,hi⟩:=mem_at.1 h;rw [List.getElem?_take] at hi;split at hi
 ·exact ⟨i,‹_›,hi⟩
 cases hi
theorem mem_drop_at {ts:List Pr} {k:Nat} {t:Pr} (h:t ∈ ts.drop k):∃ i,k<=i/\ts[i]?=some t:=by
 obtain ⟨i,hi⟩:=mem_at.1 h;rw [List.getElem?_drop] at hi;exact ⟨k+i,o_,hi⟩
theorem train_good {ts:List Pr} (h:Good ts) (a b:Int):Good (train ts a b):=by
 unfold train;cases hh:hit ts a b
 ·rw [if_neg t_];split
  ·have hx:∀ u ∈ ts.drop (lowb ts a b),Bef ⟨a,b,1⟩ u.a u.b:=fun u hu=>by
    obtain ⟨i,hi,hu⟩:=mem_drop_at hu;have hl:lowb ts a b<ts.length:=by have:=(e_ hu).1;omega
    have h1:=lowb_ge ts a b _ (ge_ hl);have h2:=hit_at (ge_ hl);rw [hh] at h2;have h3:¬((ts[lowb ts a b]).a=a/\(ts[lowb ts a b]).b=b):=by simpa [isB] using h2.symm
    have h4:Bef ⟨a,b,1⟩ (ts[lowb ts a b]).a (ts[lowb ts a b]).b:=by
     unfold Bef at *;dsimp only
     omega
    rcases Nat.eq_or_lt_of_le hi with h5 | h5
    ·subst h5;rw [ge_ hl] at hu;injection hu with hu;rw [←hu];exact h4
    exact bef_trans h4 (h.1 _ i _ u h5 (ge_ hl) hu)
   refine ⟨?_,fun i t ht=>?_⟩
   ·have hp:=sorted_pw.1 h.1;rw [sorted_pw,List.pairwise_append,List.pairwise_cons];refine ⟨hp.sublist (List.take_sublist _ _),⟨hx,hp.sublist (List.drop_sublist _ _)⟩,fun u hu v hv=>?_⟩;obtain ⟨i,hi,hu⟩:=mem_take_at hu;have h1:=lowb_lt ts a b i u hi hu;rcases List.mem_cons.1 hv with rfl | hv
    ·exact h1
    obtain ⟨j,hj,hv⟩:=mem_drop_at hv;exact h.1 i j u v o_ hu hv
   have hm:=mem_at.2 ⟨i,ht⟩;rcases List.mem_append.1 hm with h1 | h1
   ·obtain ⟨j,_,hj⟩:=mem_take_at h1;exact h.2 j t hj
   rcases List.mem_cons.1 h1 with rfl | h1
   ·exact ⟨by show (1:Int)<=1;omega,by show (1:Int)<=1048576;omega⟩
   obtain ⟨j,_,hj⟩:=mem_drop_at h1;exact h.2 j t hj
  exact h
 rw [if_pos rfl];have A0:∀ (i:Nat) (t:Pr),(ts.modify (lowb ts a b) upd)[i]?=some t->∃ u,ts[i]?=some u/\t.a=u.a/\t.b=u.b/\(1<=t.cnt/\t.cnt<=1048576):=fun i t ht=>by
  rw [List.getElem?_modify] at ht;cases hu:ts[i]? with
  | none=>rw [hu] at ht;simp at ht
  | some u =>
   rw [hu] at ht;have hb:=h.2 i u hu;by_cases hi:lowb ts a b=i
   ·simp [hi] at ht;subst ht;refine ⟨u,rfl,rfl,rfl,?_⟩;unfold upd;dsimp only
    split <;> omega
   simp [hi] at ht;subst ht;exact ⟨u,rfl,rfl,rfl,hb⟩
 refine ⟨fun i j u w A1 hu hw=>?_,fun i t ht=>?_⟩
 ·obtain ⟨u',A2,e1,e2,_⟩:=A0 i u hu;obtain ⟨w',A3,e3,e4,_⟩:=A0 j w hw;have:=h.1 i j u' w' A1 A2 A3;unfold Bef at *;rw [e1,e2,e3,e4];exact this
 obtain ⟨_,_,_,_,hb⟩:=A0 i t ht;exact hb
theorem rvTo_mem {l:List Tk}:∀ {k:Nat} {x:Nat × Tk},x ∈ rvTo l k->x.1<k/\l[x.1]?=some x.2
 | 0,x,h=>by simp [rvTo] at h
 | k+1,x,h=>by
  unfold rvTo at h;split at h
  ·rename_i t ht
   rcases List.mem_cons.1 h with rfl | h
   ·exact ⟨Nat.lt_succ_self _,ht⟩
   obtain ⟨h1,h2⟩:=rvTo_mem h;exact ⟨o_,h2⟩
  obtain ⟨h1,h2⟩:=rvTo_mem h;exact ⟨o_,h2⟩
theorem waits_is (ts:List Pr) (l:List Tk) (k:Nat) (thr st:Int):waitsP ts l k thr st=-1∨∃ j t,waitsP ts l k thr st=(j:Nat)/\j<k/\l[j]?=some t/\(t.status=0∨t.status=1)/\thr<=countP ts t.start st:=by
 unfold waitsP;cases h:(rvTo l k).find? (fun x=>cnd ts thr st x.2) with
 | none=>exact .inl rfl
 | some x =>
  obtain ⟨h1,h2⟩:=rvTo_mem (List.mem_of_find?_eq_some h);have h3:=List.find?_some h;simp only [cnd,Bool.and_eq_true,Bool.or_eq_true,beq_iff_eq,decide_eq_true_eq] at h3;exact .inr ⟨x.1,x.2,rfl,h1,h2,h3.1,h3.2⟩
theorem waits_ended {ts:List Pr} {l:List Tk} {k:Nat} {thr st:Int} (h:∀ (j:Nat) (t:Tk),l[j]?=some t->t.status≠0/\t.status≠1):waitsP ts l k thr st=-1:=by
 rcases waits_is ts l k thr st with h1 | ⟨j,t,_,_,ht,hs,_⟩
 ·exact h1
 obtain ⟨h2,h3⟩:=h j t ht;omega
theorem rvTo_has {l:List Tk}:∀ {k j:Nat} {t:Tk},j<k->l[j]?=some t->(j,t) ∈ rvTo l k
 | 0,j,t,hj,_=>by omega
 | k+1,j,t,hj,ht=>by
  unfold rvTo;rcases Nat.lt_or_ge j k with h | h
  ·have:=rvTo_has h ht;split
   ·exact .tail _ this
   exact this
  obtain rfl:j=k:=by omega
  rw [ht];exact .head _
theorem num_of {w:World} {X:NP} {K:Nat} {vs:VL} (h:VTs w X K ae_ vs) {j:Nat} (hj:ae_[j]?=some .num):∃ n,vs[j]?=some (i_ n):=by
 obtain ⟨u,hu,hv⟩:=h.2 j _ hj;obtain ⟨n,rfl⟩:=hv.int;exact ⟨n,hu⟩
theorem tk_of {w:World} {X:NP} {K:Nat} {vs:VL} (h:VTs w X K ae_ vs):∃ t:Tk,vs=t.cells:=by
 obtain ⟨a,ha⟩:=num_of h (j:=0) rfl;obtain ⟨b,hb⟩:=num_of h (j:=42) rfl;obtain ⟨c,hc⟩:=num_of h (j:=43) rfl;exact ⟨⟨a,b,c,vs,h.1,ha,hb,hc,List.all_eq_true.2 h.one⟩,rfl⟩
theorem tks_of {w:World} {X:NP} {K:Nat} {A:OA} {n c:Nat} (h:SlT w X K ae_ A n c):∃ l:List Tk,Sl w w 48 Tk.cells A n l:=by
 obtain ⟨l,hl,_⟩:=h.list Tk.cells (fun _=>True) (fun vs hv=>by obtain ⟨x,rfl⟩:=tk_of hv;exact ⟨x,rfl,trivial⟩);exact ⟨l,hl⟩
theorem sl_kp {α:Type} {w w':World} {Z:NP} {sz n:Nat} {cells:α->VL} {A:OA} {l:List α} (h:Sl w w sz cells A n l) (hk:Kp Z w w') (hA:0<n->∀ ad,A=some ad->¬Z ad.block):Sl w' w' sz cells A n l:=by
 refine ⟨h.len,fun hn=>?_⟩;obtain ⟨ab,ao,e,A0,hc⟩:=h.at_ hn;exact ⟨ab,ao,e,lt_ A0 hk.size,fun i x hx j u hu=>(hk.cell A0 (hA hn _ e)).trans (hc i x hx j u hu)⟩
theorem train_le {ts:List Pr} (h:ts.length<=256) (a b:Int):(train ts a b).length<=256:=by
 unfold train;split
 ·rw [List.length_modify];exact h
 split
 ·have:=lowb_le ts a b;simp only [List.length_append,List.length_take,List.length_cons,List.length_drop];omega
 exact h
end Go.Proofs.YtfolidlmgfhkiaaGreat.Dl
namespace Go.Proofs.YtfolidlmgfhkiaaGreat.Dl
open Go.RowKit Go.Proofs.Tryz
def ex2:List Pr:=train (train [] 3 7) 3 7
theorem ex2_is:ex2=[⟨3,7,2⟩]:=rfl
def mkTk (s:Int):Tk:=⟨s,0,0,i_ s :: zeroCells.tail,rfl,rfl,rfl,rfl,by simp [zeroCells,Value.oneCell',List.replicate]⟩
theorem sane_any (w:World):Calls prog 24 #[] w fun e w'=>e=.returned (.bool true)/\Below w w w':=by
 go_enter func24,ntmps24;go_wp2_with fail;refine (train_any none 0 0 [] 3 7 _ Sl.nil o_ good_nil).mono ?_;rintro e w1 ⟨A1,n1,c1,rfl,An,Aq,_⟩;have AA:n1=1:=An.len.symm;subst AA;go_wp2_with fail;refine (train_any A1 1 c1 (train [] 3 7) 3 7 _ An o_ ⟨fun i j u v Au hu hv=>by
  have hj:=(e_ hv).1
  have:(train [] 3 7).length=1:=rfl
  omega,fun i t ht=>by
  have hj:=(e_ ht).1
  have h1:(train [] 3 7).length=1:=rfl
  obtain rfl:i=0:=by omega
  have:t=⟨3,7,1⟩:=by
   have h2:(train [] 3 7)[0]?=some ⟨3,7,1⟩:=rfl
   rw [h2] at ht;injection ht with ht;exact ht.symm
  subst this
  exact ⟨d_,d_⟩⟩).mono ?_
 rintro e w2 ⟨A2,n2,c2,rfl,Ao,Ay,_⟩;have AB:n2=1:=Ao.len.symm;subst AB;have A7:Below w w w2:=Aq.trans (Ay.mono Aq.size);go_wp2_with fail;obtain ⟨W,hW⟩:=ex_ ((w2.alloc (.cells #[.slice A2 1 c2] 73)).alloc (.cells ((mkTk 3).cells ++ (mkTk 7).cells).toArray 65));change Calls _ _ _ ((w2.alloc (.cells #[.slice A2 1 c2] 73)).alloc (.cells ((mkTk 3).cells ++ (mkTk 7).cells).toArray 65)) _;rw [←hW];have Ar:Below w2 w2 W:=by rw [hW];exact (bel (b_))
 have Aw:(W:Nat)=w2+2:=by rw [hW];simp
 have q0:W.cell? (a_ w2)=some (.slice A2 1 c2):=(by rw [hW,ak_ _ _ _ _ y_,aj_ _ _ _ _ _ y_];rfl);have hs:Sl W W 3 Pr.cells A2 1 ex2:=Ao.up Ar;have hl:Sl W W 48 Tk.cells (some (a_ (w2+1))) 2 [mkTk 3,mkTk 7]:=by
  refine ⟨rfl,fun _=>⟨w2+1,0,rfl,o_,fun i x hx j u hu=>?_⟩⟩;have hi:i<2:=by have:=(e_ hx).1;simpa using this
  have hj:j<48:=by have:=(e_ hu).1;rwa [x.size] at this
  rw [hW,aj_ _ _ _ _ _ t_,List.getElem?_toArray,Nat.zero_add]
  match i,hi with
  | 0,_ =>
   injection hx with hx;subst hx;rw [Nat.zero_mul,Nat.zero_add,List.getElem?_append_left (by rw [Tk.size];exact hj)];exact hu
  | 1,_ =>
   injection hx with hx;subst hx;rw [List.getElem?_append_right (by rw [Tk.size];omega),Tk.size,show 1*48+j - 48=j by omega];exact hu
 have HS:=q_ hs;have Ag:=q_ hl;have Ap:Below w w W:=A7.trans (Ar.mono A7.size);have HZ:=q_ Aw;have Ae:Sorted ex2:=fun i j u v Au hu hv=>by
  have hj:=(e_ hv).1;rw [ex2_is] at hj;simp at hj;omega
 have As:∀ (i:Nat) (t:Pr),ex2[i]?=some t->1<=t.cnt/\t.cnt<=1048576:=fun i t ht=>by
  have hj:=(e_ ht).1;rw [ex2_is] at hj ht;simp at hj;subst hj;injection ht with ht;subst ht;exact ⟨d_,d_⟩
 have Af:=q_ Ae;have Ax:=q_ As;clear hW Aw hs hl An Ao Ae As;refine (ew_ A2 1 c2 ex2 3 7 W HS.o Af.o o_).mono ?_;rintro e w3 ⟨rfl,Ai⟩;rw [show countP ex2 3 7=2 from rfl];have q0:=(belc Ai (by have:=HZ.o;omega)).trans q0;have A8:=Ap.trans (Ai.mono Ap.size);have A5:=Ai;go_wp2_with fail;refine (decay_any A2 1 c2 ex2 w3 (HS.o.up A5) o_ Ax.o).mono ?_;rintro e w4 ⟨A4,n4,c4,rfl,Av,Aj,_⟩;have AC:n4=1:=Av.len.symm;subst AC;have A6:=A5.trans (Aj.mono A5.size);have q0:=(belc Aj (by have:=HZ.o;have:=A5.size;omega)).trans q0;have A9:=A8.trans (Aj.mono A8.size);go_wp2_with fail;refine (ew_ A4 1 c4 (dw_ ex2) 3 7 w4 Av (fun i j u v Au hu hv=>by
  have hj:=(e_ hv).1
  have h1:(dw_ ex2).length=1:=rfl
  omega) o_).mono ?_
 rintro e w5 ⟨rfl,Ak⟩;rw [show countP (dw_ ex2) 3 7=1 from rfl];have A0:=A6.trans (Ak.mono A6.size);have q0:=(belc Ak (by have:=HZ.o;have:=A6.size;omega)).trans q0;have Aa:=A9.trans (Ak.mono A9.size);go_wp2_with fail;refine (waits_any A2 1 c2 ex2 (some (a_ (w2+1))) 2 2 [mkTk 3,mkTk 7] 1 2 (mkTk 7) w5 (HS.o.up A0) Af.o o_ (Ag.o.up A0) o_ o_ rfl o_).mono ?_;rintro e w6 ⟨rfl,Al⟩;rw [show waitsP ex2 [mkTk 3,mkTk 7] 1 2 (mkTk 7).start=0 from rfl];have A3:=A0.trans (Al.mono A0.size);have q0:=(belc Al (by have:=HZ.o;have:=A0.size;omega)).trans q0;have Ab:=Aa.trans (Al.mono Aa.size);go_wp2_with fail;refine (waits_any A2 1 c2 ex2 (some (a_ (w2+1))) 2 2 [mkTk 3,mkTk 7] 1 3 (mkTk 7) w6 (HS.o.up A3) Af.o o_ (Ag.o.up A3) o_ o_ rfl o_).mono ?_;rintro e w7 ⟨rfl,Am⟩;rw [show waitsP ex2 [mkTk 3,mkTk 7] 1 3 (mkTk 7).start=-1 from rfl];have Ad:=A3.trans (Am.mono A3.size);have q0:=(belc Am (by have:=HZ.o;have:=A3.size;omega)).trans q0;have Ac:=Ab.trans (Am.mono Ab.size);go_wp2_with fail;refine (waits_any A2 1 c2 ex2 (some (a_ (w2+1))) 2 2 [mkTk 3,mkTk 7] 0 1 (mkTk 3) w7 (HS.o.up Ad) Af.o o_ (Ag.o.up Ad) o_ o_ rfl o_).mono ?_;rintro e w8 ⟨rfl,Az⟩;rw [show waitsP ex2 [mkTk 3,mkTk 7] 0 1 (mkTk 3).start=-1 from rfl];have Ah:=Ac.trans (Az.mono Ac.size);go_wp2;go_ret;exact ⟨rfl,Ah⟩
end Go.Proofs.YtfolidlmgfhkiaaGreat.Dl
namespace Go.Proofs.YtfolidlmgfhkiaaGreat
open Go.RowKit Go.Proofs.Tryz
def byteCells (x:Int):VL:=[.int .u8 x]
def Dice (w:World) (d:Nat):Prop:=d<w/\∃ S sn sc,∃ a:Nat,w.cell? (a_ d)=some (.slice S sn sc)/\w.cell? (f_ d 1)=some (i_ a)/\w.frozen? (f_ d 1)=false/\a<=sn/\sn<=200 ∧
 (∀ i,i<sn->∃ sb so x,S=some (f_ sb so)/\sb<d/\0<=x/\x<=255/\w.cell? ⟨sb,so+i,none⟩=some (.int .u8 x))
theorem Dice.below {w w':World} {d:Nat} (h:Dice w d) (hb:Below w w w'):Dice w' d:=by
 obtain ⟨hd,S,sn,sc,a,h0,h1,h2,h3,h4,h5⟩:=h;refine ⟨by have:=hb.size;omega,S,sn,sc,a,(belc hb hd).trans h0,(belc hb hd).trans h1,(belf hb hd).trans h2,h3,h4,fun i hi=>?_⟩;obtain ⟨sb,so,x,e,A0,h6,h7,h8⟩:=h5 i hi;exact ⟨sb,so,x,e,A0,h6,h7,(belc hb o_).trans h8⟩
theorem Dice.set {w:World} {d:Nat} (h:Dice w d) {p:Addr} (hp:d<p.block) (u:Value):Dice (w.setCell p u) d:=by
 obtain ⟨hd,S,sn,sc,a,h0,h1,h2,h3,h4,h5⟩:=h;have ne:∀ b o,b<=d->(w.setCell p u).cell? (f_ b o)=w.cell? (f_ b o):=fun b o hb=>World.cell?_setCell_other w p _ _ (fun e=>by rw [e] at hp;have:d<b:=hp;omega)
 refine ⟨by simpa using hd,S,sn,sc,a,(ne _ _ (l_)).trans h0,(ne _ _ (l_)).trans h1,by rw [World.frozen?_setCell];exact h2,h3,h4,fun i hi=>?_⟩;obtain ⟨sb,so,x,e,A0,h6,h7,h8⟩:=h5 i hi;exact ⟨sb,so,x,e,A0,h6,h7,(ne _ _ o_).trans h8⟩
theorem Dice.lt {w:World} {d:Nat} (h:Dice w d):d<w:=h.1
structure cx_ (w:World) (d:Nat) (w':World):Prop where
 dice:Dice w' d
 grown:w.grownBy w' (some d)
theorem cx_.cell {w w':World} {d:Nat} (h:cx_ w d w') {b o:Nat} (hb:b<w) (hne:b≠d):w'.cell? (f_ b o)=w.cell? (f_ b o):=(gcell h.grown).1 b o hb (fun e=>hne (by injection e))
theorem cx_.frozen {w w':World} {d:Nat} (h:cx_ w d w') {b o:Nat} (hb:b<w) (hne:b≠d):w'.frozen? (f_ b o)=w.frozen? (f_ b o):=(gcell h.grown).2 b o hb (fun e=>hne (by injection e))
theorem cx_.size {w w':World} {d:Nat} (h:cx_ w d w'):(w:Nat)<=w':=h.grown.size
theorem cx_.of_below {w w':World} {d:Nat} (h:Dice w d) (hb:Below w w w'):cx_ w d w':=⟨h.below hb,ce_ hb _⟩
theorem thrown_at {w:World} {d sn sc a:Nat} {S:OA} (hd:d<w) (h0:w.cell? (a_ d)=some (.slice S sn sc)) (h1:w.cell? (f_ d 1)=some (i_ a)) (h2:w.frozen? (f_ d 1)=false) (h3:a<sn) (h4:sn<=200)
  (h5:∀ i,i<sn->∃ sb so x,S=some (f_ sb so)/\sb<d/\0<=x/\x<=255/\w.cell? ⟨sb,so+i,none⟩=some (.int .u8 x)) (i j:Nat) :
  cx_ w d (((w.drewN i).setCell (f_ d 1) (i_ (a+1))).drewN j):=by
 have hc:∀ q,(((w.drewN i).setCell (f_ d 1) (i_ (a+1))).drewN j).cell? q=(w.setCell (f_ d 1) (i_ (a+1))).cell? q:=fun q=>rfl
 have hz:(((w.drewN i).setCell (f_ d 1) (i_ (a+1))).drewN j).heap.size=w:=by show (w.setCell _ _).heap.size=_;simp
 refine ⟨⟨by rw [hz];exact hd,S,sn,sc,a+1,?_,?_,?_,h3,h4,fun k hk=>?_⟩,?_⟩
 ·rw [hc,be_ _ _ _ _ (by intro e;injection e with e1 e2;omega)];exact h0
 ·rw [hc,World.cell?_setCell_same _ _ _ h1];rfl
 ·show (w.setCell _ _).frozen? _=false;rw [World.frozen?_setCell];exact h2
 ·obtain ⟨sb,so,x,e,h6,h7,h8,h9⟩:=h5 k hk;refine ⟨sb,so,x,e,h6,h7,h8,?_⟩;rw [hc,be_ _ _ _ _ (by intro e;injection e with e1 e2;omega)];exact h9
 exact ⟨rfl,rfl,rfl,by rw [hz];exact l_,fun k hk A0=>Below.heap_setCell w (f_ d 1) _ k (fun e=>A0 (by rw [e]))⟩
structure Lv {α:Type} (w:World) (d sz:Nat) (cells:α->VL) (A:OA) (n:Nat) (l:List α):Prop where
 sl:Sl w w sz cells A n l
 hi:0<n->∀ ad,A=some ad->ad.block≠d
theorem bo_ (d n:Nat) (w:World) (hD:Dice w d) (h1:1<=n) (hn:n<=1000000) :
  Calls prog 26 #[.pointer (some (a_ d)),i_ n] w fun e w'=>∃ r:Nat,r<n/\e=.returned (i_ r)/\cx_ w d w'/\(w':Nat)=w:=by
 have HD:=q_ hD;obtain ⟨hd,S,sn,sc,a,c0,c1,f1,ha,A0,hs⟩:=hD;by_cases hlt:a<sn
 ·obtain ⟨sb,so,x,rfl,A1,A2,A3,hx⟩:=hs a hlt;have hne:¬sb=d:=by omega
  have HS:=q_ hs;clear hs;go_enter func26,ntmps26;go_wp2;go_quiet (fail);go_wp2;go_quiet (fail);go_wp2;go_ret;obtain ⟨r,hr⟩:∃ r:Nat,x % n=r:=⟨(x % n).toNat,by have:=Int.emod_nonneg x (show (n:Int)≠0 by omega);omega⟩;refine ⟨r,by have:=Int.emod_lt_of_pos x (show (0:Int)<n by omega);omega,by rw [hr];rfl,thrown_at hd c0 c1 f1 hlt A0 HS.o _ _,?_⟩;show (w.setCell _ _).heap.size=_
  simp
 go_enter func26,ntmps26;go_wp2;go_quiet (fail);go_wp2;go_ret;exact ⟨0,h1,rfl,.of_below HD.o (bel (b_)),rfl⟩
theorem new_dice (A:OA) (n c:Nat) (l:List Int) (w:World) (hs:Sl w w 1 byteCells A n l) (hl:∀ (i:Nat) (x:Int),l[i]?=some x->0<=x/\x<=255) (hnc:n<=c) (hn:n<=9223372036854775807) (hc:c<=9223372036854775807) :
  Calls prog 10 #[.slice A n c] w fun e w'=>∃ d,e=.returned (pt d)/\Dice w' d/\w<=d/\Below w w w':=by
 have HL:=q_ hl;have HS:=q_ hs;clear hl hs;have A0:∀ (m:Nat) (o:Obj),m<=n->∀ i,i<m->∃ sb so x,A=some (f_ sb so)/\sb<w/\0<=x/\x<=255/\(w.alloc o).cell? ⟨sb,so+i,none⟩=some (.int .u8 x):=fun m o hm i hi=>by
  obtain ⟨ab,ao,rfl,A2,A3⟩:=HS.o.at_ o_;obtain ⟨x,hx⟩:∃ x,l[i]?=some x:=⟨_,ge_ (by rw [HS.o.len];omega)⟩;have h:=A3 i x hx 0 _ rfl;simp only [Nat.mul_one,Nat.add_zero] at h;exact ⟨ab,ao,x,rfl,A2,(HL.o i x hx).1,(HL.o i x hx).2,(ak_ _ _ _ _ A2).trans h⟩
 have A1:=q_ A0;clear A0;by_cases h200:200<n
 ·go_enter func10,ntmps10;go_wp2_with go_in;go_ret;refine ⟨w,rfl,⟨by simp,A,200,c,0,by simp,by simp,by simp,o_,o_,A1.o 200 _ o_⟩,l_,(bel (b_))⟩
 go_enter func10,ntmps10;go_wp2_with go_in;go_ret;refine ⟨w,rfl,⟨by simp,A,n,c,0,by simp,by simp,by simp,o_,o_,A1.o n _ o_⟩,l_,(bel (b_))⟩
end Go.Proofs.YtfolidlmgfhkiaaGreat
