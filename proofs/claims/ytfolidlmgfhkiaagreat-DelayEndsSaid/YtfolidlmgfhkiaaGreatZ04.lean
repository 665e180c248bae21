/- Lemmas: each says what a function of the program leaves, under the conditions that it states. -/
import Derived.Test.YtfolidlmgfhkiaaGreatZ03
import Derived.RangeFuncNested
import Derived.RangeFuncBound
import Derived.RangeFuncLeaves
import Derived.Deep.WholeRow
import Derived.OwnWalkIn
import Derived.TacticsInMore
import Derived.LoopNIn
import Derived.LoopIn
import Derived.OrdersIn
import Derived.RangeFuncCalls
set_option linter.unusedVariables false
set_option linter.unusedSimpArgs false
set_option maxRecDepth 100000
set_option maxHeartbeats 4000000
namespace Go.Proofs.YtfolidlmgfhkiaaGreat.Dl
open Go.RowKit Go.Proofs.Tryz
def Gives (ts':List Pr) (w:World) (e:Ending) (w':World):Prop:=∃ A' n' c',e=.returned (.agg #[.slice A' n' c'])/\Sl w' w' 3 Pr.cells A' n' ts'/\Below w w w'/\(∀ ad,A'=some ad->w<=ad.block)
theorem one_cells (ts:List Pr):∀ u ∈ ts.flatMap Pr.cells,u.oneCell'=true:=by
 intro u hu;obtain ⟨t,_,ht⟩:=List.mem_flatMap.1 hu;simp [Pr.cells] at ht;rcases ht with rfl | rfl | rfl <;> rfl
theorem heap_alloc_new (w:World) (o:Obj):(w.alloc o).heap[w.heap.size]?=some o:=heap_new w o
theorem sl_upd {w2 F:World} {g n k:Nat} {ts:List Pr} {t:Pr} (hl:ts.length=n) (hg:g<F) (ht:ts[k]?=some t)
  (hold:∀ (i:Nat) (x:Pr),ts[i]?=some x->∀ (j:Nat) (u:Value),(Pr.cells x)[j]?=some u->w2.cell? ⟨g,i*3+j,none⟩=some u)
  (hoth:∀ o,(o<k*3∨k*3+3<=o)->F.cell? (f_ g o)=w2.cell? (f_ g o))
  (hnew:∀ (j:Nat) (u:Value),(Pr.cells (upd t))[j]?=some u->F.cell? ⟨g,k*3+j,none⟩=some u) :
  Sl F F 3 Pr.cells (some (a_ g)) n (ts.modify k upd):=by
 refine ⟨by rw [List.length_modify,hl],fun _=>⟨g,0,rfl,hg,fun i x hx j u hu=>?_⟩⟩;have hj:j<3:=by have:=(e_ hu).1;rwa [Pr.size] at this
 rw [Nat.zero_add];rw [List.getElem?_modify] at hx;by_cases hik:k=i
 ·subst hik;rw [ht] at hx;simp at hx;subst hx;exact hnew j u hu
 simp [hik] at hx;rw [hoth _ o_];exact hold i x hx j u hu
theorem three {t:Pr} {P:Nat->Value->Prop} (h0:P 0 (i_ t.a)) (h1:P 1 (i_ t.b)) (h2:P 2 (i_ t.cnt)):∀ (j:Nat) (u:Value),(Pr.cells t)[j]?=some u->P j u:=by
 intro j u hu
 match j,hu with
 | 0,hu=>simp [Pr.cells] at hu;subst hu;exact h0
 | 1,hu=>simp [Pr.cells] at hu;subst hu;exact h1
 | 2,hu=>simp [Pr.cells] at hu;subst hu;exact h2
 | j+3,hu=>simp [Pr.cells] at hu
theorem train_any (A:OA) (n c:Nat) (ts:List Pr) (a b:Int) (w:World) (hs:Sl w w 3 Pr.cells A n ts) (hn:n<=900000) (hgood:Good ts) :
  Calls prog 29 #[.agg #[.slice A n c],i_ a,i_ b] w (Gives (train ts a b) w):=by
 have HS:=q_ hgood.1;have Ar:=q_ hgood.2;have A2:=q_ hs.len;clear hgood;go_enter func29,ntmps29;go_wp2_with fail;obtain ⟨W,hW⟩:=ex_ ((w.alloc (.cells #[.slice A n c] 73)).alloc (.cells #[.slice none 0 0] 73));rw [←hW];have Am:Below w w W:=by rw [hW];exact (bel (b_))
 have An:(W:Nat)=w+2:=by rw [hW];simp
 have Aq:=(hs.below Am).mono (B':=W) o_;refine (CloneTrk.any A n c (ts.flatMap Pr.cells) W (Aq.src Pr.size).1 (Aq.src Pr.size).2 (by rw [flat_len Pr.size,hs.len]) o_ (one_cells ts)).mono ?_;rintro e w1 ⟨A1,c1,rfl,A6,Ad⟩;have AF:=Ad.size;have d0:=(belc Ad (b:=w) (o:=0) o_).trans (show W.cell? (a_ w)=some (.slice A n c) from (by rw [hW,ak_ _ _ _ _ y_,aj_ _ _ _ _ _ y_];rfl));have d3:=(belc Ad (b:=w+1) (o:=0) o_).trans (show W.cell? (a_ (w+1))=some (.slice none 0 0) from (by rw [hW,aj_ _ _ _ _ _ y_];rfl));have d4:=(belf Ad (b:=w+1) (o:=0) o_).trans (show W.frozen? (a_ (w+1))=false from (by rw [hW,bx_ _ _ _ _ _ y_]));have HZ:=q_ An;have A8:Below w w w1:=Am.trans (Ad.mono o_);clear hW An;go_wp2_with fail;refine (search_any A n c ts a b w1 (hs.up A8) HS.o o_).mono ?_;rintro e w2 ⟨rfl,Ae⟩;have AG:=Ae.size;have A9:Below w w w2:=A8.trans (Ae.mono A8.size);have e3:=(belc Ae (b:=w+1) (o:=0) (by have:=HZ.o;omega)).trans d3;have e4:=(belf Ae (b:=w+1) (o:=0) (by have:=HZ.o;omega)).trans d4;have A0:=own_below A6 Ae;have Ao:∀ k,(Value.slice A1 n c1).ownBlock=some k->w+2<=k/\k<w1:=fun k hk=>by have:=A6.lt k hk;have:=HZ.o;omega
 have Ab:=q_ Ao;have Ap:(w:Nat)+1<w2:=by have:=HZ.o;omega
 clear Ao d0 d3 d4;by_cases hh:hit ts a b=true
 ·have HH:=q_ hh;rw [HH.o];obtain ⟨t,ht,AA,AB⟩:=hit_some hh;have Ag:lowb ts a b<n:=by rw [←A2.o];exact (e_ ht).1
  obtain ⟨g,c2,Ah,AD,Ax⟩:=A0.form o_;injection Ah with Ah _ hc12;subst Ah hc12;obtain ⟨k,hk⟩:=ex_ (lowb ts a b);rw [←hk] at ht Ag;rw [←hk];have Aw:=Ab.o g rfl;have A5:∀ (i:Nat) (x:Pr),ts[i]?=some x->∀ (j:Nat) (u:Value),(Pr.cells x)[j]?=some u->w2.cell? ⟨g,i*3+j,none⟩=some u:=fun i x hx j u hu=>by
   have hj:j<3:=by have:=(e_ hu).1;rwa [Pr.size] at this
   have hi:=(e_ hx).1;rw [A2.o] at hi;rw [A0.cellAt _ o_];exact flat_get Pr.size ts i x hx j u hu
  have f0:w2.cell? ⟨g,k*3,none⟩=some (i_ t.a):=A5 k t ht 0 _ rfl;have f1:w2.cell? ⟨g,k*3+1,none⟩=some (i_ t.b):=A5 k t ht 1 _ rfl;have f2:w2.cell? ⟨g,k*3+2,none⟩=some (i_ t.cnt):=A5 k t ht 2 _ rfl;have fz:∀ j,w2.frozen? (f_ g j)=false:=fun j=>A0.frozenAt j
  have Ac:=h_ (train ts a b=ts.modify k upd) (by rw [train,hh,hk];rfl);obtain ⟨Ay,Az⟩:=Ar.o k t ht;have HO:=q_ A5;have HT:=q_ ht;have AE:¬g=w+1:=by omega
  have Ai:w<=g:=by omega
  have Au:=q_ A0;clear hh ht hk A5 Aw A6 A0 AA AB;go_wp2;all_goals
   refine bodyPost_ret (v:=.agg #[.slice (some (a_ g)) n c1]) (by simp [results,results29,go_sem,e3]) rfl ⟨_,n,c1,rfl,?_,(bel A9),by rintro ad ⟨⟩;exact Ai⟩;rw [Ac.o];refine sl_upd (w2:=w2) A2.o (by simpa using Ax) HT.o HO.o (fun o ho=>?_) (three ?_ ?_ ?_)
   ·repeat rw [be_ _ _ _ _ (by intro e;injection e with e1 e2;omega)]
   ·simp [go_sem,upd,f0]
   ·simp [go_sem,upd,f1]
   simp [go_sem,upd,f2] <;> omega
 have hh:hit ts a b=false:=by simpa using hh
 have HH:=q_ hh;rw [HH.o];by_cases hlt:n<256
 ·have Ac:=h_ (train ts a b=ts.take (lowb ts a b) ++ ⟨a,b,1⟩ :: ts.drop (lowb ts a b)) (by rw [train,hh,if_neg t_,if_pos (by rw [A2.o];exact hlt)]);have Aj:(n:Int)<256:=by omega
  have Ag:=lowb_le ts a b;rw [A2.o] at Ag;clear hh;go_wp2_with fail;refine (InsTrk.any (.slice A1 n c1) n (lowb ts a b) (ts.flatMap Pr.cells) (Pr.cells ⟨a,b,1⟩) W.heap.size w2.heap.size _ (A0.alloc _) Ag o_ (by simp;omega) rfl (heap_alloc_new w2 _) (fun e=>by have:=Ab.o _ e;omega) (by simp [Pr.cells,Value.oneCell']) (one_cells ts)).mono ?_;rintro e w3 ⟨A3,c3,rfl,A4,A7⟩;have AC:=A7.size;simp only [World.size_alloc] at AC;have g3:w3.cell? (a_ (w.heap.size+1))=some (.slice none 0 0):=((gcell A7).1 _ _ (by simp;omega) (fun e=>by have:=Ab.o _ e.symm;omega)).trans ((ak_ _ _ _ _ Ap).trans e3);have g4:w3.frozen? (a_ (w.heap.size+1))=false:=((gcell A7).2 _ _ (by simp;omega) (fun e=>by have:=Ab.o _ e.symm;omega)).trans ((ei_ _ _ _ _ Ap).trans e4);have Av:Below w.heap.size w w3:=A9.trans (((b_).alloc o_ _).grown A7 (by simp;omega) (fun k hk=>by have:=Ab.o _ hk;omega));have Aa:(Value.slice A3 (n+1) c3).ownBlock≠some (w.heap.size+1):=fun e=>by have:=A4.lt _ e;have:=HZ.o;omega
  have Af:(ts.flatMap Pr.cells).take (lowb ts a b*3) ++ Pr.cells ⟨a,b,1⟩ ++ (ts.flatMap Pr.cells).drop (lowb ts a b*3)=(train ts a b).flatMap Pr.cells:=by
   rw [flat_take Pr.size,flat_drop Pr.size,Ac.o];simp
  rw [Af] at A4;have As:=h_ ((train ts a b).length=n+1) (by rw [Ac.o];simp [A2.o];omega);have Al:=q_ A4;clear Af A4 A0 A6;go_wp2;refine bodyPost_ret (v:=.agg #[.slice A3 (n+1) c3]) (by simp [results,results29,go_sem,g3]) rfl ⟨A3,n+1,c3,rfl,?_,(bel Av),own_lo Al.o (by have:=HZ.o;omega)⟩;exact Sl.ee_ Pr.size As.o (bw_ Al.o _ Aa)
 have Ac:=h_ (train ts a b=ts) (by rw [train,hh,if_neg t_,if_neg (by rw [A2.o];exact hlt)]);have Aj:¬(n:Int)<256:=by omega
 have Aa:(Value.slice A1 n c1).ownBlock≠some (w.heap.size+1):=fun e=>by have:=Ab.o _ e;omega
 have Ak:=q_ A0;clear hh A6 A0;go_wp2;refine bodyPost_ret (v:=.agg #[.slice A1 n c1]) (by simp [results,results29,go_sem,e3]) rfl ⟨A1,n,c1,rfl,?_,(bel A9),own_lo Ak.o (by have:=HZ.o;omega)⟩;rw [Ac.o];exact Sl.ee_ Pr.size A2.o (bw_ Ak.o _ Aa)
structure Out (w:World) (base p:Nat) (v:Value) (l:List Pr):Prop where
 cell:w.cell? (a_ p)=some v
 fr:w.frozen? (a_ p)=false
 own:w.ownsRow base 85 3 v l.length (l.flatMap Pr.cells)
 lt:p<base
 le:base<=w
theorem Out.below {w w':World} {base p:Nat} {v:Value} {l:List Pr} (h:Out w base p v l) (hb:Below w w w'):Out w' base p v l :=
 have A0:p<w:=lt_ h.lt h.le
 ⟨(belc hb A0).trans h.cell,(belf hb A0).trans h.fr,own_below h.own hb,h.lt,Nat.le_trans h.le hb.size⟩
theorem Out.more {w W w1:World} {base p:Nat} {v:Value} {l:List Pr} (h:Out w base p v l) (hW:Below w w W) (hg:W.grownBy w1 v.ownBlock) :
  w1.cell? (a_ p)=some v/\w1.frozen? (a_ p)=false/\Below base w w1:=by
 have A0:p<w:=lt_ h.lt h.le;have hz:=hW.size;have hne:some p≠v.ownBlock:=fun e=>by have:=h.own.lt p e.symm;have:=h.lt;omega
 exact ⟨((gcell hg).1 p 0 o_ hne).trans ((belc hW A0).trans h.cell),((gcell hg).2 p 0 o_ hne).trans ((belf hW A0).trans h.fr),
  (hW.mono h.le).grown hg (by have:=h.le;omega) (fun k hk=>(h.own.lt k hk).1)⟩
def half (x:Pr):Pr:=⟨x.a,x.b,x.cnt / 2⟩
def dw_ (ts:List Pr):List Pr:=(ts.map half).filter (fun x=>decide (1<=x.cnt))
theorem decay_next {ts:List Pr} {k:Nat} {x:Pr} (hx:ts[k]?=some x):dw_ (ts.take (k+1))=dw_ (ts.take k) ++ if 1<=x.cnt / 2 then [half x] else []:=by
 rw [dw_,List.take_add_one,hx];simp only [Option.toList,List.map_append,List.filter_append,List.map_cons,List.map_nil]
 congr 1
 simp only [List.filter_cons,List.filter_nil,half];split <;> split <;> simp_all
theorem decay_len (ts:List Pr):(dw_ ts).length<=ts.length:=by
 unfold dw_;exact Nat.le_trans (List.length_filter_le _ _) t_
theorem decay_any (A:OA) (n c:Nat) (ts:List Pr) (w:World) (hs:Sl w w 3 Pr.cells A n ts) (hn:n<=900000) (hgood:∀ (i:Nat) (t:Pr),ts[i]?=some t->1<=t.cnt/\t.cnt<=1048576) :
  Calls prog 34 #[.agg #[.slice A n c]] w (Gives (dw_ ts) w):=by
 obtain ⟨i0,hi,Ak,Al,Am⟩:=info_parts CloneTrk.infoE;have Af:=q_ hgood;have HL:=q_ hs.len;clear hgood;obtain ⟨W,hW⟩:=ex_ (((w.alloc (.cells #[.slice A n c] 73)).alloc (.cells #[.slice none 0 0] 73)).alloc (.cells #[.slice none 0 0] 73));have Aa:Below w w W:=by rw [hW];exact (bel (b_))
 have Ab:(W:Nat)=w+3:=by rw [hW];simp
 have q0:W.cell? (a_ w)=some (.slice A n c):=(by rw [hW,ak_ _ _ _ _ y_,ak_ _ _ _ _ y_,aj_ _ _ _ _ _ y_];rfl);have q2:W.cell? (a_ (w+1))=some (.slice none 0 0):=(by rw [hW,ak_ _ _ _ _ y_,aj_ _ _ _ _ _ y_];rfl);have Ad:W.frozen? (a_ (w+1))=false:=(by rw [hW,ei_ _ _ _ _ y_,bx_ _ _ _ _ _ y_]);have q3:W.cell? (a_ (w+2))=some (.slice none 0 0):=(by rw [hW,aj_ _ _ _ _ _ y_];rfl);have Ae:W.frozen? (a_ (w+2))=false:=(by rw [hW,bx_ _ _ _ _ _ y_]);have Ah:Hid (Out W (w+3) (w+2) (.slice none 0 0) []):=q_ ⟨q3,Ae,World.ownsRow_nil _ _ _ _,o_,o_⟩;have HQ:=h_ (W.cell? (a_ (w+1))=some (.slice none 0 0)/\W.frozen? (a_ (w+1))=false) (⟨q2,Ad⟩);have Aj:=q_ Aa;have HZ:=q_ Ab;clear q2 Ad q3 Ae Aa Ab;go_enter func34,ntmps34;go_wp2_with fail;rw [←hW];clear hW;go_loopw [9] (fun i wr=>∃ (k:Nat) (v:Value),k<=n/\i=i_ k/\Hid (Out wr (w+3) (w+2) v (dw_ (ts.take k)))/\Hid (Below (w+2) W wr)) (fun i _=>n - (intOf i).toNat)
 case atStart=>exact ⟨0,_,Nat.zero_le _,rfl,Ah,q_ (b_)⟩
 obtain ⟨k,v,hk,rfl,hO,hb⟩:=hrel;have HR:=h_ (Below w w wr) (Aj.o.trans (hb.o.mono o_));have Au:(w:Nat)+3<=wr:=hO.o.le;have As:(w:Nat)+2<wr:=by omega
 have Ar:(w:Nat)+1<wr:=by omega
 have r1:wr.cell? (a_ (w+1))=some (.slice none 0 0):=(belc hb.o o_).trans HQ.o.1;have An:wr.frozen? (a_ (w+1))=false:=(belf hb.o o_).trans HQ.o.2;have r2:=hO.o.cell;have Aw:=hO.o.fr;obtain ⟨l,hl⟩:=ex_ (dw_ (ts.take k));rw [←hl] at hO;have A6:=q_ hl;have A9:=h_ (l.length<=k) (by rw [hl];exact Nat.le_trans (decay_len _) (by rw [List.length_take];omega));clear hl;by_cases hlt:k<n
 ·obtain ⟨ab,ao,rfl,A7,A2⟩:=hs.at_ o_;obtain ⟨x,hx⟩:∃ x,ts[k]?=some x:=⟨_,ge_ (by rw [HL.o];exact hlt)⟩;have c0:wr.cell? ⟨ab,ao+k*3,none⟩=some (i_ x.a):=(belc HR.o A7).trans (A2 k x hx 0 _ rfl);have c1:wr.cell? ⟨ab,ao+k*3+1,none⟩=some (i_ x.b):=(belc HR.o A7).trans (A2 k x hx 1 _ rfl);have c2:wr.cell? ⟨ab,ao+k*3+2,none⟩=some (i_ x.cnt):=(belc HR.o A7).trans (A2 k x hx 2 _ rfl);obtain ⟨Ap,Aq⟩:=Af.o k x hx;have HX:=q_ hx;clear A2 hx;by_cases hc:1<=x.cnt / 2
  ·have A5:=h_ (dw_ (ts.take (k+1))=l ++ [half x]) (by rw [decay_next HX.o,←A6.o,if_pos hc]);have A8:=q_ ((bel (Below.refl wr wr)):Below wr wr ((wr.alloc (.cells #[i_ x.a,i_ x.b,i_ (x.cnt / 2)] 85)).alloc (.cells #[i_ x.a,i_ x.b,i_ (x.cnt / 2)] 85)));have Ag:=h_ (∀ ad,(some (a_ (wr+1)):OA)=some ad->∀ (j:Nat) (u:Value),(Pr.cells (half x))[j]?=some u->((wr.alloc (.cells #[i_ x.a,i_ x.b,i_ (x.cnt / 2)] 85)).alloc (.cells #[i_ x.a,i_ x.b,i_ (x.cnt / 2)] 85)).cell? (ad.add j)=some u) (fun ad h j u hu=>by
    injection h with h
    subst h
    rw [Addr.add_lit,aj_ _ _ _ _ _ t_,Nat.zero_add,List.getElem?_toArray]
    exact hu)
   go_wp2_with (at_builtin;refine cj_ rfl _ _ 71 rfl (w+3) 85 i0 _ 3 24 underlying71 hi Ak Al Am rfl d_ v l.length (l.flatMap Pr.cells) rfl (own_below hO.o.own A8.o) (some (a_ (wr+1))) 1 1 (Pr.cells (half x)) rfl (by intro h;cases h) rfl Ag.o (by simp [Pr.cells,Value.oneCell']) (by have:=A9.o;unfold maxLen;omega) (by have:=A9.o;omega) (by simp;omega) ?_;intro A3 c3 w3 A0 A1 _;have A4:=hO.o.more A8.o A1;have u2:=A4.1;have Ao:=A4.2.1;have Ac:=A4.2.2);have Ai:=q_ A0;have Av:=Ac.size;clear A0 A1 A4;go_roundw
   case rel=>exact ⟨k+1,_,o_,by go_num,q_ (by rw [A5.o];exact ⟨World.cell?_setCell_same _ _ _ u2,by rw [World.frozen?_setCell];exact Ao,(by
     have h5:=Ai.o
     rw [List.length_append,List.flatMap_append]
     exact bw_ (by simpa using h5) _ (fun e=>by have:=h5.lt _ e;first | omega | (simp at this <;> omega))),o_,by simp;omega⟩),q_ ((hb.o.trans (Ac.mono o_)).setCell (by show _<=_;simp) _)⟩
   case measure=>simp [intOf];omega
  have A5:=h_ (dw_ (ts.take (k+1))=l) (by rw [decay_next HX.o,←A6.o,if_neg hc,List.append_nil]);go_wp2;go_roundw
  case rel=>exact ⟨k+1,v,o_,by go_num,q_ (by rw [A5.o];exact hO.o.below ((bel (b_)))),q_ ((bel hb.o))⟩
  case measure=>simp [intOf];omega
 obtain rfl:k=n:=by omega
 have HE:=h_ (l=dw_ ts) (by rw [A6.o,List.take_of_length_le (by rw [HL.o];exact l_)]);obtain ⟨A',c',hv⟩:∃ A' c',v=.slice A' l.length c':=by
  rcases hO.o.own.2 with ⟨h,h0⟩ | ⟨g,cap,cur,h,_⟩
  ·exact ⟨none,0,by rw [h0];exact h⟩
  exact ⟨_,_,h⟩
 subst hv;go_wp2;refine bodyPost_ret (v:=.agg #[.slice A' l.length c']) (by simp [results,results34,go_sem,r1,An]) rfl ⟨A',_,c',rfl,?_,(bel HR.o),own_lo hO.o.own o_⟩;have h5:=hO.o.own;rw [←HE.o];exact Sl.ee_ Pr.size rfl (bw_ h5 _ (fun e=>by have:=h5.lt _ e;first | omega | (simp at this <;> omega)))
end Go.Proofs.YtfolidlmgfhkiaaGreat.Dl
namespace Go.Proofs.YtfolidlmgfhkiaaGreat.Dl
open Go.RowKit Go.Proofs.Tryz
attribute [local go_sem] Oper.semAt_some
structure Tk where
 start:Int
 status:Int
 next:Int
 cells:VL
 size:cells.length=48
 c0:cells[0]?=some (i_ start)
 c42:cells[42]?=some (i_ status)
 c43:cells[43]?=some (i_ next)
 one:cells.all (·.oneCell')=true
def TkAt (w:World) (b o:Nat) (t:Tk):Prop:=∀ (j:Nat) (v:Value),t.cells[j]?=some v->w.cell? ⟨b,o+j,none⟩=some v
theorem tk_agg:(prog.info? 65).map (·.size)=some 48:=by kernel_rfl
def zeroCells:VL:=[i_ 0,i_ 0,.bool false,i_ 0] ++ (List.replicate 16 [Value.bool false,i_ 0]).flatten ++ List.replicate 6 (.slice none 0 0) ++ [i_ 0,i_ 0,.bool false,.bool false,i_ 0,i_ 0]
theorem wpListIn_load_tk {F:Fence} {n:Nat} {ops:Array Oper} {rest:List Oper} {op:Oper} {a:Act} {w:World} {Q:Exit->Act->World->Prop} (hgd:op.guard=none) (x:Operand) (ho:op.op=.load 65 x)
  {b o:Nat} {t:Tk} (hx:a.eval x=.pointer (some (f_ b o))) (hc:TkAt w b o t) (h:wpListIn F n prog ops Q rest (a.put op.dst (.agg t.cells.toArray)) w):wpListIn F n prog ops Q (op :: rest) a w:=by
 refine wpListIn_plain hgd fun K hK=>?_
 have h1:=run_loadAt_mid (P:=prog) w b o _ t.cells _ (fun j v hv=>hc j v hv) underlying65 rfl (by rw [t.size];exact tk_agg);unfold Oper.wpIn;refine ⟨?_,?_⟩
 ·simp [Oper.about,ho]
 rw [Oper.semAt_plain F _ _ (by rw [ho];intro c A0;cases A0)];unfold execOp;simp only [ho,hx,Sem.run_bind,h1,Result.andThen_ok,Sem.run_pure];exact hK _ _ h
theorem wpListIn_store_tk {F:Fence} {n:Nat} {ops:Array Oper} {rest:List Oper} {op:Oper} {a:Act} {w:World} {Q:Exit->Act->World->Prop} (hgd:op.guard=none) (x y:Operand) (ho:op.op=.store 65 x y)
  {c:Array Value} (t:Tk) (hc:c.size=48) (hx:a.eval x=.pointer (some (a_ w))) (hy:a.eval y=.agg t.cells.toArray)
  (h:wpListIn F n prog ops Q rest (a.put op.dst undef) (w.alloc (.cells t.cells.toArray 65))):wpListIn F n prog ops Q (op :: rest) a (w.alloc (.cells c 65)):=by
 refine wpListIn_plain hgd fun K hK=>?_
 have hs:t.cells.toArray.size=48:=by simp [t.size]
 have h1:=run_storeAt_new (P:=prog) w _ c t.cells.toArray (by rw [hs];exact tk_agg) (by rw [hs];exact hc) (by simpa using t.one);unfold Oper.wpIn;refine ⟨?_,?_⟩
 ·simp [Oper.about,ho]
 rw [Oper.semAt_plain F _ _ (by rw [ho];intro c A0;cases A0)];unfold execOp;simp only [ho,hx,hy,Sem.run_bind,h1,Result.andThen_ok,Sem.run_pure];exact hK _ _ h
def rvTo (l:List Tk):Nat->List (Nat × Tk)
 | 0=>[]
 | m+1=>match l[m]? with
  | some t=>(m,t) :: rvTo l m
  | none=>rvTo l m
def tkv (x:Nat × Tk):Array Value:=#[i_ x.1,.agg x.2.cells.toArray]
theorem back_in (m l n₀ Bn:Nat) (hm:1<=m) (A:OA) (k c:Nat) (ts:List Tk) (J Jx:List (Nat × Tk)->World->Prop) (hk:k<=1000000) (hB:Bn<n₀)
  (hY:∀ pre y W1,J pre W1->pre.length<k->YieldAt Fence.wide (m - 1) prog l (tkv y) W1 fun e W' =>
   (e=.returned (.bool true)/\J (pre ++ [y]) W'/\Below n₀ W1 W')∨(e=.returned (.bool false)/\Jx (pre ++ [y]) W'))
  (W:World) (hc:W.cell? (a_ Bn)=some (.slice A k c)) (hs:Sl W n₀ 48 Tk.cells A k ts) (h0:J [] W) :
  CallsIn Fence.wide m prog 107 #[.func (.yield l) #[] #[],.pointer (some (a_ Bn))] W fun e W'=>(∃ v,e=.returned v) ∧
   ((∃ ys,ys=rvTo ts k/\J ys W')∨(∃ pre,pre <+: rvTo ts k/\Jx pre W')):=by
 have HY:=q_ hY;have HC:=q_ hc;have HL:=q_ hs.len;have Ag:=hc;clear hY;have Af:=HC.o;refine callsIn_of_wp func107 rfl trivial ?_ rfl;simp only [ntmps107,List.size_toArray,List.length_cons,List.length_nil,Nat.reduceAdd,Nat.reduceSub,Array.replicate_succ,Array.replicate_zero,List.push_toArray,List.append_toArray,List.nil_append,List.cons_append]
 gi_wp2
 gi_loopw [3] (fun i wr=>∃ (pre:List (Nat × Tk)) (j:Nat),i=i_ ((j:Int) - 1)/\j<=k/\pre.length+j=k/\Hid (rvTo ts k=pre ++ rvTo ts j)/\J pre wr/\Below n₀ W wr) (fun i _=>(intOf i+1).toNat)
 case atStart=>exact ⟨[],k,by first | rfl | (congr 1;omega),l_,by simp,q_ t_,h0,b_⟩
 obtain ⟨pre,j,rfl,hj,Ak,A6,A0,hb⟩:=hrel;have Ah:=(belc hb hB).trans HC.o;cases j with
 | zero =>
  gi_wp2
  go_end0;exact ⟨⟨_,rfl⟩,.inl ⟨pre,by rw [A6.o];simp [rvTo],A0⟩⟩
 | succ j =>
  have A7:=hs.below hb;obtain ⟨ab,ao,rfl,Aj,A5⟩:=A7.at_ o_;obtain ⟨t,ht⟩:∃ t,ts[j]?=some t:=⟨_,ge_ (by rw [HL.o];omega)⟩;have Aa:=h_ (TkAt wr ab (ao+j*48) t) (fun i v hv=>by rw [Nat.add_assoc];exact A5 j t ht i v hv);have A3:=h_ (rvTo ts k=(pre ++ [(j,t)]) ++ rvTo ts j) (by rw [A6.o];simp [rvTo,ht]);obtain ⟨fn,Ae,A1,Ab,hy,hR⟩:=HY.o pre (j,t) wr A0 o_;unfold tkv at hy;have e1:((j+1:Nat):Int) - 1=(j:Int):=by omega
  rw [e1];have Ai:(j:Int)<(k:Int):=by omega
  clear A5 ht A7
  gi_wp2_with (with_reducible refine wpListIn_load_tk rfl (.tmp 15) rfl v_ Aa.o ?_)
  refine hR.mono ?_;rintro e W3 (⟨rfl,A4,Ad⟩ | ⟨rfl,A2⟩)
  ·have Ac:=hb.trans Ad;have A8:=q_ Ac;have A9:=q_ A4;clear hy hR A0 hb A4
   gi_wp2
   go_roundw
   case rel=>exact ⟨pre ++ [(j,t)],j,by first | rfl | go_num,o_,by simp;omega,A3,A9.o,A8.o⟩
   case measure=>simp [intOf]
  clear hy hR A0 hb
  gi_wp2
  refine bodyPost_ret (results_none rfl _ _ _) rfl ?_;exact ⟨⟨_,rfl⟩,.inr ⟨pre ++ [(j,t)],⟨rvTo ts j,A3.o.symm⟩,A2⟩⟩
theorem back_stops (m n₀ Bn:Nat) (hm:1<=m) (A:OA) (k c:Nat) (ts:List Tk) (hk:k<=1000000) (hB:Bn<n₀) (w:World) (hn:n₀<=w) (hc:w.cell? (a_ Bn)=some (.slice A k c)) (hs:Sl w n₀ 48 Tk.cells A k ts) :
  SeqStopsK Fence.wide m prog 107 #[.pointer (some (a_ Bn))] tkv (Below n₀) (fun ys=>ys=rvTo ts k) (fun pre=>pre <+: rvTo ts k) k w:=fun l J Jx W hW _ _ hY h0 =>
 back_in m l n₀ Bn hm A k c ts J Jx hk hB hY W ((belc hW o_).trans hc) (hs.below (hW.mono hn)) h0
end Go.Proofs.YtfolidlmgfhkiaaGreat.Dl
namespace Go.Proofs.YtfolidlmgfhkiaaGreat
open Go.RowKit
def cutA (A:OA) (c k sz:Nat):OA:=if c=k then A else A.map (·.add (k*sz))
theorem slice_high {P:Program} {t e:TypeId} {i:TypeInfo} (hu:P.underlying t=some (.slice e)) (hi:P.info? e=some i) {A:OA} {n c k:Nat} (hk:k≤c) (w:World) :
  (Instr.slice t (.slice A n c) none (some (.int .i64 k)) none).run P w=.ok (.slice A k c) w:=by
 have hm:A.map (·.add 0)=A:=by cases A <;> simp [Addr.add]
 simp [Instr.slice,run_underlying hu,Instr.sliceBounds,Instr.sliceBound,asIntOf,hk,sizeOf,typeInfo,hi,hm]
theorem et_ {P:Program} {t e:TypeId} {i:TypeInfo} (hu:P.underlying t=some (.slice e)) (hi:P.info? e=some i) {A:OA} {n c k:Nat} (hk:k≤n) (w:World) :
  (Instr.slice t (.slice A n c) (some (.int .i64 k)) none none).run P w=.ok (.slice (cutA A c k i.size) (n - k) (c - k)) w:=by
 simp [Instr.slice,run_underlying hu,Instr.sliceBounds,Instr.sliceBound,asIntOf,hk,sizeOf,typeInfo,hi,cutA]
theorem Sl.src_low {α:Type} {w:World} {B sz:Nat} {cells:α→VL} {A:OA} {n c k:Nat} {l:List α} (h:Sl w B sz cells A n l) (hsz:∀ x,(cells x).length=sz) (hnc:n≤c) :
  (cutA A c k sz=none→n - k=0)∧∀ ad,cutA A c k sz=some ad→∀ (j:Nat) (u:Value),((l.drop k).flatMap cells)[j]?=some u→w.cell? (ad.add j)=some u:=by
 by_cases hk:k<n
 ·obtain ⟨ab,ao,rfl,_,_⟩:=h.at_ (by omega)
  have hne:¬c=k:=by omega
  unfold cutA
  rw [if_neg hne]
  refine ⟨fun h=>absurd h (by simp),fun ad A0 j u hu=>?_⟩
  injection A0 with A0
  subst A0
  rw [←flat_drop hsz,List.getElem?_drop] at hu
  have:=(h.src hsz).2 _ rfl (k*sz+j) u hu
  show w.cell? (Addr.add (Addr.add ⟨ab,ao,none⟩ (k*sz)) j)=some u
  rw [Addr.add_lit] at this
  rwa [Addr.add_lit,Addr.add_lit,Nat.add_assoc]
 ·refine ⟨fun _=>by omega,fun ad _ j u hu=>?_⟩
  rw [List.drop_eq_nil_of_le (by rw [h.len];omega)] at hu
  simp at hu
def noDefer (o:Oper):Bool:=match o.op with | .defer _=>false | _=>true
theorem noDefer_spec {o:Oper} (h:noDefer o=true):∀ c,o.op≠.defer c:=fun c e=>by unfold noDefer at h;rw [e] at h;cases h
section
variable {P:Program} {ops:Array Oper} {Q:Exit->Act->World->Prop} {md:Region.Mode} {l n:Nat}
theorem wpIn_of_wp_round {o:Oper} {a:Act} {w:World} {K:Act->World->Prop} (hnd:noDefer o=true) (h:o.wp P a w K Q):o.wpIn (Fence.wide.inRound l) n P a w K Q:=by
 unfold Oper.wpIn;refine ⟨fun _ _=>trivial,?_⟩;rw [show (Fence.wide.inRound l).round=some l from rfl,Oper.semAt_some l _ _ (noDefer_spec hnd)];unfold Oper.wp at h;generalize (execOp a.eval o).run P w=r at *;cases r with
 | ok x w' =>
  cases x with
  | value v=>exact h
  | skip=>exact h
  | defer d=>exact h
  | enter f args=>exact ⟨fun e=>(by simp [Fence.inRound,Fence.wide] at e),(CallsIn.inRound l (callsIn_wide.2 h)).mono fun e A0 he=>(by cases e <;> exact he)⟩
  | row row args =>
   refine ⟨fun e=>(by simp [Fence.inRound,Fence.wide] at e),fun c cs _=>?_⟩;obtain ⟨v,A0,r,s⟩:=h c cs;exact ⟨v,A0,r,stepsIn_wide.2 s⟩
  | _=>exact h.elim
 | halt x w'=>cases x <;> exact h
theorem dd_ (hnd:∀ (i:Nat) (o:Oper),ops[i]?=some o->noDefer o=true) (hlo:∀ a w,¬Q .outgrown a w):∀ (fuel:Nat) (listed:Array Bool) (a:Act) (w:World),wpAny P md ops Q fuel listed a w->wpAnyIn (Fence.wide.inRound l) n P md ops Q fuel listed a w
 | 0,_,_,_,h=>h
 | fuel+1,listed,a,w,h=>by
  refine ⟨h.1,fun i hi=>?_⟩;have h2:=h.2 i hi;unfold wpOp at h2;unfold wpOpIn;cases ho:ops[i]? with
  | none =>
   simp only [ho] at h2 ⊢;exact dd_ hnd hlo fuel _ a w h2
  | some o =>
   simp only [ho] at h2 ⊢;by_cases hw:Region.wanted o (yielded ops a.tmps)=true
   ·simp only [hw,if_true] at h2 ⊢;rcases h2 with h2 | ⟨_,a',w',h2⟩
    ·exact wpIn_of_wp_round (hnd i o ho) (Go.Oper.wp_mono (fun a w hK=>dd_ hnd hlo fuel _ a w hK) h2)
    exact absurd h2 (hlo a' w')
   simp only [hw,if_false,Bool.false_eq_true] at h2 ⊢;exact ⟨fun _ _=>trivial,dd_ hnd hlo fuel _ _ w h2⟩
theorem region_round {id:Nat} {a:Act} {w:World} {S:World->Prop} (hm:P.follows .mixedOrders=true) (hnd:ops.all noDefer=true) (hlo:∀ a w,¬Q .outgrown a w) (hS:S w.drew)
  (h:S w.drew->wpAnyH P .any ops Q S ops.size (Array.replicate ops.size false) a w.drew):(Code.region id ops true).wpIn (Fence.wide.inRound l) n P Q a w :=
 wpIn_region_any hm (dd_ (fun i o ho=>by
  obtain ⟨hi,e⟩:=Array.getElem?_eq_some_iff.1 ho
  rw [←e]
  exact Array.all_eq_true.1 hnd i hi) hlo _ _ _ _ (wpAny_of_held _ _ _ _ (h hS)))
end
end Go.Proofs.YtfolidlmgfhkiaaGreat
