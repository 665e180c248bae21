/- Lemmas on functions of the program, under the conditions that each states. -/
import Derived.Test.YtfolidlmgfhkiaaGreatV03
import Derived.Stop.RegionWithIn
import Derived.Shelf.Abstract
import Derived.RangeFuncBox
import Derived.Lib.AppendZerosOnto
import Derived.MapKept
import Derived.Carry
set_option linter.unusedVariables false
set_option linter.unusedSimpArgs false
set_option maxRecDepth 100000
set_option maxHeartbeats 8000000
namespace Go.Proofs.YtfolidlmgfhkiaaGreat.Sq
open Go.RowKit Go.Shelf
attribute [local go_sem] Oper.semAt_some
theorem backward_any (A:OA) (n c:Nat) (w:World) :
  Calls Tryz.prog 67 #[.slice A n c] w fun e w'=>e=.returned (.func (.func 107) #[] #[.pointer (some (a_ w))])/\w'=w.alloc (.cells #[.slice A n c] 41):=by
 go_enter Tryz.func67,Tryz.ntmps67;go_wp2;go_ret;exact ⟨rfl,rfl⟩
theorem older_any (ab ao m d k:Nat) (hk:k<=m) (hd:m<=d) (w:World) :
  Calls Tryz.prog 91 #[.slice (some (f_ ab ao)) m d,i_ k] w fun e w'=>e=.returned (.slice (some (f_ ab ao)) k d)/\w'=w:=by
 have A0:∀ w',(Instr.slice 41 (.slice (some (f_ ab ao)) m d) none (some (i_ (k:Int))) none).run Tryz.prog w'=.ok (.slice (some (f_ ab ao)) k d) w':=slice_high (i:=(Tryz.prog.info? 65).get!) Tryz.underlying41 k_ o_;have h1:min (k:Int) (m:Int)=(k:Int):=by omega
 have h2:max (k:Int) 0=(k:Int):=by omega
 have h3:¬(m:Int)<(k:Int):=by omega
 have h4:¬(k:Int)<0:=by omega
 have h5:¬(k:Int)<=0\/k=0:=by omega
 go_enter Tryz.func91,Tryz.ntmps91;go_wp2;go_ret;exact ⟨rfl,rfl⟩
theorem find_none {α:Type} {p:α->Bool}:∀ {l:List α},(∀ x ∈ l,p x=false)->l.find? p=none
 | [],_=>rfl
 | y :: l,h=>by rw [List.find?_cons,h y t_];exact find_none fun x hx=>h x (by simp [hx])
theorem find_at {α:Type} {p:α->Bool} {x:α} {r:List α} (hx:p x=true):∀ {q:List α},(∀ y ∈ q,p y=false)->(q ++ x :: r).find? p=some x
 | [],_=>by rw [List.nil_append,List.find?_cons,hx]
 | y :: q,h=>by rw [List.cons_append,List.find?_cons,h y t_];exact find_at hx fun z hz=>h z (by simp [hz])
theorem mem_snoc {α:Type} {p:α->Prop} {q:List α} {x:α} (h:∀ y ∈ q,p y) (hx:p x):∀ y ∈ q ++ [x],p y:=fun y hy=>by
 rcases List.mem_append.1 hy with h1 | h1
 ·exact h y h1
 obtain rfl:=List.mem_singleton.1 h1;exact hx
theorem rvTo_take {α:Type} (l:List α) (k:Nat):∀ j,j<=k->rvTo (l.take k) j=rvTo l j
 | 0,_=>rfl
 | j+1,h=>by
  unfold rvTo;rw [List.getElem?_take,if_pos o_,rvTo_take l k j o_]
theorem keeps_of_below {B:Nat} {W W':World} (h:Below W W W'):KeepsFrom B W W':=⟨h.size,fun k _ _ hk _=>(h.block k (Array.getElem?_eq_some_iff.1 hk).1).trans hk⟩
theorem keeps_set {B b:Nat} {W:World} (hb:b<B) (v:Value):KeepsFrom B W (W.setCell (a_ b) v):=⟨zj_,fun k _ hB hk _=>(Below.heap_setCell _ _ _ k (by show k≠b;omega)).trans hk⟩
theorem blk_cell {W:World} {b:Nat} {c:VL} {t:TypeId} (h:W.heap[b]?=some (.cells c.toArray t (0,0))) {j:Nat} {u:Value} (hu:c[j]?=some u):W.cell? (f_ b j)=some u:=by
 rw [cell_of_row W b j c.toArray t (0,0) h,List.getElem?_toArray];exact hu
def lastG (id field:Int) (l:List (Nat × Tk)):Option (Nat × Tk):=l.find? (fun x=>gives id field x.2)
theorem lastG_none {w0:World} {id field:Int} {l:List (Tr w0)} {k:Nat} (h:∀ x ∈ rvTo l k,gives id field x.2.t=false):lastG id field (rvTo (l.map (·.t)) k)=none:=by
 unfold lastG;rw [rvTo_map];refine find_none fun x hx=>?_
 obtain ⟨y,hy,rfl⟩:=List.mem_map.1 hx;exact h y hy
theorem lastG_some {w0:World} {id field:Int} {l:List (Tr w0)} {k:Nat} {q r:List (Nat × Tr w0)} {x:Nat × Tr w0} (e:rvTo l k=q ++ x :: r) (h:∀ x ∈ q,gives id field x.2.t=false) (hx:gives id field x.2.t=true):lastG id field (rvTo (l.map (·.t)) k)=some (x.1,x.2.t):=by
 unfold lastG;rw [rvTo_map,e,List.map_append,List.map_cons];exact find_at (p:=fun x:Nat × Tk=>gives id field x.2) hx fun y hy=>by
  obtain ⟨z,hz,rfl⟩:=List.mem_map.1 hy;exact h z hz
theorem source_any (HA:OA) (hn hc:Nat) (ol:List Ob) (B:OA) (m d:Nat) (w0:World) (l:List (Tr w0)) (k:Nat) (id field:Int) (r:Bool) (n:Int) (w:World) (hw0:Below w0 w0 w)
  (hh:Hp w w HA hn ol) (hhn:hn<=9000000000000) (hl:Sl w w 48 Tr.cells B m l) (hm:m<=900000) (hd:m<=d) (hk:k<m) :
  Calls Tryz.prog 50 #[.agg #[.slice HA hn hc],.slice B m d,i_ k,.agg #[i_ id,i_ field,.bool r,i_ n]] w fun e w'=>e=.returned (i_ (srcP (fun i f=>cn_ i f (ol.map Ob.po)) (l.map (·.t)) k id field))/\Below w w w':=by
 obtain ⟨ab,ao,rfl,AP,AK⟩:=hl.at_ o_;have As:=q_ hl;have HH:=q_ hh;have AC:=q_ hhn;have Au:=q_ hw0;clear AK hh hhn hw0;refine (callsIn_wide (n:=7)).1 ?_;refine callsIn_of_wp_marks Tryz.func50 rfl trivial ?_ rfl;simp only [Tryz.ntmps50,List.size_toArray,List.length_cons,List.length_nil,Nat.reduceAdd,Nat.reduceSub,Array.replicate_succ,Array.replicate_zero,List.push_toArray,List.append_toArray,List.nil_append,List.cons_append]
 gi_wp2_with fail
 refine ⟨trivial,?_⟩;refine (callsIn_wide.2 (older_any ab ao m d k o_ hd _)).mono ?_;rintro e w' ⟨rfl,rfl⟩
 gi_wp2_with fail
 refine ⟨trivial,?_⟩;refine (callsIn_wide.2 (backward_any (some (f_ ab ao)) k d _)).mono ?_;rintro e w' ⟨rfl,rfl⟩;obtain ⟨U,hU⟩:=ex_ ((((w.alloc (.cells #[.slice HA hn hc] 35)).alloc (.cells #[i_ id,i_ field,.bool r,i_ n] 87)).alloc (.cells #[i_ 0] 3)).alloc (.cells #[.slice (some (f_ ab ao)) k d] 41));rw [<-hU];have Az:(U:Nat)=w+4:=by rw [hU];simp
 have Am:Below w w U:=by rw [hU];exact (bel (b_))
 have b4:U.cell? (a_ w)=some (.slice HA hn hc):=(by rw [hU,al_ _ _ _ _ y_,al_ _ _ _ _ y_,al_ _ _ _ _ y_,ar_ _ _ _ _ _ y_];rfl);have b7:U.cell? (a_ (w+1))=some (i_ id):=zx_;have A8:U.cell? (f_ (w+1) 1)=some (i_ field):=zx_;have Aj:U.cell? (f_ (w+1) 2)=some (.bool r):=zx_;have Ak:U.cell? (f_ (w+1) 3)=some (i_ n):=zx_;have b8:U.cell? (a_ (w+2))=some (i_ 0):=(by rw [hU,al_ _ _ _ _ y_,ar_ _ _ _ _ _ y_];rfl);have A2:U.frozen? (a_ (w+2))=false:=(by rw [hU,et_ _ _ _ _ y_,bu_ _ _ _ _ _ y_]);have b9:U.cell? (a_ (w+3))=some (.slice (some (f_ ab ao)) k d):=(by rw [hU,ar_ _ _ _ _ _ y_];rfl);have HB:=q_ (And.intro b4 (And.intro b7 (And.intro A8 (And.intro Aj (And.intro Ak (And.intro b8 A2))))));have A1:=q_ Az;have Ao:=q_ Am;have Ae:Sl U (w+4) 48 Tr.cells (some (f_ ab ao)) k (l.take k):=⟨by rw [List.length_take];have:=As.o.len;omega,fun _=>by
  obtain ⟨AG,AH,e,h1,h2⟩:=(As.o.below Am).at_ o_
  exact ⟨AG,AH,e,o_,fun i x hx j u hu=>h2 i x (by rw [List.getElem?_take] at hx;split at hx;exact hx;cases hx) j u hu⟩⟩
 have AE:=q_ Ae;have AR:(w+1+1+1:Nat)=(w:Nat)+3:=by omega
 clear hU b4 b7 A8 Aj Ak b8 A2 Ae Az Am hl
 gi_wp2
 refine wpIn_rangeFunc_ownH rfl o_ (gf:=107) (lb:=#[.pointer (some (a_ (w+3)))]) rfl trivial (enters_of Tryz.func107 k_ rfl)
  (back_stops 6 (w+4) (w+3) o_ (some (f_ ab ao)) k d (l.take k) o_ o_ U wh_ b9 AE.o) belowK_t (belowK_b wh_) (b_) (fun _=>rfl)
  (fun A6 W=>(∀ x ∈ A6,gives id field x.2.t=false)/\Below (w+4) U W)
  (fun e A6 W=>(e=.ret/\(∃ x q,A6=q ++ [x]/\(∀ y ∈ q,gives id field y.2.t=false)/\gives id field x.2.t=true/\W.cell? (a_ (w+2))=some (i_ x.1)))/\Below w w W)
  (OwnFrom.and (ownFrom_pure _ _) (ownFrom_below wh_ wh_))
  (fun e=>OwnFrom.and (Own.from (fun s X Y row hs hg hr=>by
   obtain ⟨h1,x,q,h2,h3,h4,h5⟩:=hs
   exact ⟨h1,x,q,h2,h3,h4,cell_kept h5 hg hr⟩) _) (ownFrom_below (l_) wh_))
  ⟨zj_,b_⟩
  (fun x a' W=>∃ Bx,w.heap.size+4<=Bx/\W.heap[Bx]?=some (.cells x.2.t.cells.toArray 65 (0,0))/\a'={ tmps:=#[.agg #[.slice HA hn hc],.slice (some (f_ ab ao)) m d,i_ k,.agg #[i_ id,i_ field,.bool r,i_ n],.pointer (some (a_ w.heap.size)),undef,undef,.pointer (some (a_ (w.heap.size+1))),.pointer (some ⟨w.heap.size+1+1,0,none⟩),i_ x.1,.pointer (some (a_ Bx)),undef,undef,.slice (some (f_ ab ao)) m d,i_ k,.slice (some (f_ ab ao)) k d,.func (.func 107) #[] #[.pointer (some ⟨w.heap.size+1+1+1,0,none⟩)],i_ x.1,.agg x.2.t.cells.toArray,undef,undef,undef,undef,undef,undef,undef,undef,undef,undef,undef,undef,undef,undef],defers:=[] })
  (fun x a' _ X Y row hs hg hr=>by
   obtain ⟨Bx,h1,h2,h3⟩:=hs
   refine ⟨Bx,h1,(hg.block Bx (Array.getElem?_eq_some_iff.1 h2).1 (fun e=>?_)).trans h2,h3⟩
   obtain ⟨_,o,ho,hc⟩:=hr Bx e.symm
   rw [h2] at ho
   injection ho with ho
   subst ho
   cases hc)
  ?assign ?body ?done ?stop
 case assign =>
  rintro lp A6 x W K ⟨A4,hB⟩ hK;have A5:=A1.o;unfold tkv
  gi_wp2_with (with_reducible refine wpListIn_store_tk rfl (.tmp 10) (.tmp 18) rfl x.2.t t_ v_ v_ ?_)
  exact hK _ _ ((KeepsOthers.alloc _ _).from _) ((Below.refl _ W).alloc (by have:=hB.size;omega) _) ⟨A4,hB.alloc (by have:=hB.size;omega) _⟩ ⟨W.heap.size,by have:=hB.size;omega,heap_new W _,rfl⟩
 case body =>
  rintro lp A6 x a' W hl _ ⟨A4,hB⟩ ⟨Bx,AO,bX,rfl⟩ AQ;have A5:=A1.o;have AN:=hB.size;have b7:=(belc hB o_).trans HB.o.2.1;have A8:=(belc hB o_).trans HB.o.2.2.1;have Aj:=(belc hB o_).trans HB.o.2.2.2.1;have Ak:=(belc hB o_).trans HB.o.2.2.2.2.1;have b8:=(belc hB o_).trans HB.o.2.2.2.2.2.1;have A2:=(belf hB (b:=w+2) (o:=0) o_).trans HB.o.2.2.2.2.2.2;have An:=Ao.o.trans (hB.mono o_);have AF:=h_ (TkAt W Bx 0 x.2.t) (fun j v hv=>by rw [Nat.zero_add];exact blk_cell bX hv);have Ah:=q_ A4;have AB:=q_ An;have AA:=q_ hB;have AD:=q_ (x.2.rq.up (Au.o.trans (An.mono Au.o.size)));clear A4 An bX hB
  gi_wp2_with (with_reducible refine wpListIn_load_tk rfl (.tmp 10) rfl v_ AF.o ?_)
  refine ⟨trivial,?_⟩;refine (callsIn_wide.2 (has_any x.2.t id field r n W AD.o)).mono ?_;rintro e w1 ⟨rfl,A0⟩;cases hg:gives id field x.2.t
  ·have HG:=q_ hg;have A7:=q_ A0;clear hg A0
   gi_wp2
   exact ⟨keeps_of_below A7.o,A7.o.mono o_,(by first | exact fun y hy=>mem_snoc (p:=fun y:Nat × Tr w0=>gives id field y.2.t=false) Ah.o HG.o y hy | exact fun a b hy=>mem_snoc (p:=fun y:Nat × Tr w0=>gives id field y.2.t=false) Ah.o HG.o (a,b) hy),AA.o.trans (A7.o.mono o_)⟩
  have HG:=q_ hg;have A7:=q_ A0;have c8:=(belc A0 o_).trans b8;have AI:=(belf A0 (b:=w+2) (o:=0) o_).trans A2;clear hg A0
  gi_wp2
  exact ⟨(keeps_of_below A7.o).trans (keeps_set o_ _),⟨rfl,x,A6,rfl,Ah.o,HG.o,World.cell?_setCell_same _ _ _ c8⟩,(AB.o.trans (A7.o.mono o_)).setCell (by show _<=_;simp <;> omega) _⟩
 case done =>
  rintro D ys W hD rfl ⟨A4,hB⟩ hK;have A5:=A1.o;have AN:=hB.size;have b4:=(belc hB o_).trans HB.o.1;have b7:=(belc hB o_).trans HB.o.2.1;have A8:=(belc hB o_).trans HB.o.2.2.1;have b8:=(belc hB o_).trans HB.o.2.2.2.2.2.1;have A2:=(belf hB (b:=w+2) (o:=0) o_).trans HB.o.2.2.2.2.2.2;have HW:=q_ (show srcP (fun i f=>cn_ i f (ol.map Ob.po)) (l.map (·.t)) k id field=if cn_ id field (ol.map Ob.po) then -1 else -2 from by
   have h:=lastG_none (l:=l) (k:=k) (id:=id) (field:=field) (fun x hx=>A4 x (by rw [rvTo_take l k k (l_)];exact hx))
   unfold lastG at h
   unfold srcP
   rw [h])
  have Ag:=q_ hB;have HK:=q_ hK;clear A4 hB hK
  gi_wp2
  have Af:Below w w W:=Ao.o.trans (Ag.out.mono o_);have Av:D<W:=(Array.getElem?_eq_some_iff.1 HK.o).1;refine ⟨trivial,?_⟩;refine (callsIn_wide.2 (read_any HA hn hc ol id field W (HH.o.up Af) AC.o)).mono ?_;rintro e w1 ⟨rfl,A0⟩;obtain ⟨vr,Ay⟩:=ex_ ((readD id field (ol.map Ob.po)).ref);obtain ⟨vn,Ax⟩:=ex_ ((readD id field (ol.map Ob.po)).n);rw [<-Ay,<-Ax];clear Ay Ax;have c8:=(belc A0 (b:=w+2) (o:=0) o_).trans b8;have AI:=(belf A0 (b:=w+2) (o:=0) o_).trans A2;have AS:=A0.size;have AL:(w:Nat)+2<w1:=by omega
  have AM:¬(w:Nat)+1+1=w1:=by omega
  have Aw:(w:Nat)+1+1<w1:=by omega
  have Aq:=q_ c8;have Ar:=q_ ((A0.block D Av).trans HK.o);have Ap:=q_ (Af.trans (A0.mono Af.size));clear b4 b7 A8 b8 A2 A0 Af Av;cases hrb:cn_ id field (ol.map Ob.po)
  ·skip
   have Ai:=q_ (HW.o.trans (by rw [hrb];rfl:_=(-2:Int)));clear hrb
   gi_wp2
   obtain ⟨S,hS⟩:=ex_ (w1.setCell ⟨w+1+1,0,none⟩ (i_ (-2)));rw [<-hS];obtain ⟨V,hV⟩:=ex_ (S.alloc (.cells #[.bool vr,i_ vn] 38));rw [<-hV];have AJ:(S:Nat)=w1:=by rw [hS];simp
   have A3:Below S S V:=by rw [hV];exact (b_).alloc (l_) _
   have s8:S.cell? (a_ (w+2))=some (i_ (-2)):=by rw [hS];exact World.cell?_setCell_same _ _ _ Aq.o
   have Aa:S.heap[D]?=some (.deferred (some [])):=by rw [hS];exact (Below.heap_setCell _ _ _ D (by show D≠w+1+1;omega)).trans Ar.o
   have Ab:V.heap[D]?=some (.deferred (some [])):=(A3.block D (Array.getElem?_eq_some_iff.1 Aa).1).trans Aa;have A9:Below w w S:=by rw [hS];exact Ap.o.setCell (by show _<=(w:Nat)+1+1;omega) _
   have Al:Below w w V:=A9.trans (A3.mono A9.size);have v8:V.cell? (a_ (w+2))=some (i_ (-2)):=(belc A3 o_).trans s8;have hc:(V.putObj D (.deferred none)).cell? (a_ (w+2))=some (i_ (-2)):=(World.cell?_of_block (World.putObj_heap_other (by show w+2≠D;omega))).trans v8;refine ⟨zj_,.inl ⟨_,_,rfl,run_takeDeferred Ab,i_ (-2),?_,?_⟩⟩
   ·simp [results,Tryz.results50,go_sem,hc]
   exact ⟨by rw [Ai.o],Al.trans (belowK_b (w:=w) (l_) _ D _ _ o_ Ab rfl rfl)⟩
  skip
  have Ai:=q_ (HW.o.trans (by rw [hrb];rfl:_=(-1:Int)));clear hrb
  gi_wp2
  obtain ⟨S,hS⟩:=ex_ (w1.setCell ⟨w+1+1,0,none⟩ (i_ (-1)));rw [<-hS];obtain ⟨V,hV⟩:=ex_ (S.alloc (.cells #[.bool vr,i_ vn] 38));rw [<-hV];have AJ:(S:Nat)=w1:=by rw [hS];simp
  have A3:Below S S V:=by rw [hV];exact (b_).alloc (l_) _
  have s8:S.cell? (a_ (w+2))=some (i_ (-1)):=by rw [hS];exact World.cell?_setCell_same _ _ _ Aq.o
  have Aa:S.heap[D]?=some (.deferred (some [])):=by rw [hS];exact (Below.heap_setCell _ _ _ D (by show D≠w+1+1;omega)).trans Ar.o
  have Ab:V.heap[D]?=some (.deferred (some [])):=(A3.block D (Array.getElem?_eq_some_iff.1 Aa).1).trans Aa;have A9:Below w w S:=by rw [hS];exact Ap.o.setCell (by show _<=(w:Nat)+1+1;omega) _
  have Al:Below w w V:=A9.trans (A3.mono A9.size);have v8:V.cell? (a_ (w+2))=some (i_ (-1)):=(belc A3 o_).trans s8;have hc:(V.putObj D (.deferred none)).cell? (a_ (w+2))=some (i_ (-1)):=(World.cell?_of_block (World.putObj_heap_other (by show w+2≠D;omega))).trans v8;refine ⟨zj_,.inl ⟨_,_,rfl,run_takeDeferred Ab,i_ (-1),?_,?_⟩⟩
  ·simp [results,Tryz.results50,go_sem,hc]
  exact ⟨by rw [Ai.o],Al.trans (belowK_b (w:=w) (l_) _ D _ _ o_ Ab rfl rfl)⟩
 rintro D e A6 W hD Ad ⟨⟨rfl,x,q,rfl,hq,hx,hc⟩,hB⟩ hK;have HW:=q_ (show srcP (fun i f=>cn_ i f (ol.map Ob.po)) (l.map (·.t)) k id field=x.1 from by
  obtain ⟨r,hr⟩:=Ad
  have h:=lastG_some (l:=l) (k:=k) (id:=id) (field:=field) (q:=q) (r:=r) (x:=x) (by rw [<-rvTo_take l k k (l_),<-hr,List.append_assoc,List.singleton_append]) hq hx
  unfold lastG at h
  unfold srcP
  rw [h])
 have HK:=q_ hK;have Ag:=q_ hB;have A5:=A1.o;clear hq hx Ad hK hB
 gi_wp2
 have hc:(W.putObj D (.deferred none)).cell? (a_ (w+2))=some (i_ x.1):=(World.cell?_of_block (World.putObj_heap_other (by show w+2≠D;omega))).trans hc;refine ⟨zj_,.inl ⟨_,_,rfl,run_takeDeferred HK.o,i_ x.1,?_,?_⟩⟩
 ·simp [results,Tryz.results50,go_sem,hc]
 exact ⟨by rw [HW.o],Ag.out.trans (belowK_b (w:=w) (l_) W D _ _ o_ HK.o rfl rfl)⟩
end Go.Proofs.YtfolidlmgfhkiaaGreat.Sq
namespace Go.Proofs.YtfolidlmgfhkiaaGreat.Sq
open Go.RowKit Go.Proofs.Tryz
structure Ac where
 a:Bool
 b:Int
 c:Int
def Ac.cells (x:Ac):VL:=[.bool x.a,i_ x.b,i_ x.c]
theorem Ac.size (x:Ac):x.cells.length=3:=rfl
theorem cl_one (l:List Cl):∀ u ∈ l.flatMap Cl.cells,u.oneCell'=true:=by
 intro u hu;obtain ⟨t,_,ht⟩:=List.mem_flatMap.1 hu;simp [Cl.cells] at ht;rcases ht with rfl | rfl | rfl | rfl <;> rfl
theorem dt_one (l:List Dt):∀ u ∈ l.flatMap Dt.cells,u.oneCell'=true:=by
 intro u hu;obtain ⟨t,_,ht⟩:=List.mem_flatMap.1 hu;simp [Dt.cells] at ht;rcases ht with rfl | rfl | rfl | rfl | rfl <;> rfl
theorem ac_one (l:List Ac):∀ u ∈ l.flatMap Ac.cells,u.oneCell'=true:=by
 intro u hu;obtain ⟨t,_,ht⟩:=List.mem_flatMap.1 hu;simp [Ac.cells] at ht;rcases ht with rfl | rfl | rfl <;> rfl
def GivesO (id:Int) (w:World) (e:Ending) (w':World):Prop:=∃ A n c,e=.returned (.agg #[i_ id,.slice A n c])/\Below w w w'
def GivesS (w:World) (e:Ending) (w':World):Prop:=∃ A n c,e=.returned (.slice A n c)/\Below w w w'
def GivesK (w:World) (e:Ending) (w':World):Prop:=∃ cs:VL,e=.returned (.agg cs.toArray)/\cs.length=48/\cs.all (·.oneCell')=true/\Below w w w'
theorem dupObj_any (x:Ob) (w:World) (hs:Sl w w 2 Val.cells x.A x.n x.s) (hn:x.n<=1000000) :
  Calls prog 97 #[.agg #[i_ x.id,.slice x.A x.n x.c]] w (GivesO x.id w):=by
 obtain ⟨W,hW,A0,Af,B1,B2⟩:=cb_ w [i_ x.id,.slice x.A x.n x.c] 90 [i_ 0,.slice none 0 0] 90;obtain ⟨b1,A2⟩:=ex_ w.heap.size;obtain ⟨b2,A3⟩:=ex_ (w.heap.size+1);rw [<-A2] at B1;rw [<-A3] at B2;have hne:b1≠b2:=by omega
 have A4:w<=b1/\w<=b2:=by omega
 have A6:=q_ (hs.up A0);have A7:=q_ A0;have A9:=q_ B1;have Aa:=q_ B2;have Ae:=q_ hs.len;have q0:=B1.2.1 0 _ rfl;have q1:=B1.2.1 1 _ rfl;go_enter func97,ntmps97;go_upto_region 1 with fail;rw [<-hW,<-A3,<-A2];clear hW A2 A3 hs A0 Af B1 B2;go_wp2_with fail;refine (CloneVal.any x.A x.n x.c (x.s.flatMap Val.cells) W (A6.o.src Val.size).1 (A6.o.src Val.size).2 (by rw [cj_ Val.size,Ae.o]) o_ (val_one x.s)).mono ?_;rintro e w1 ⟨A1,c1,rfl,A5,hb⟩;have Ab:=q_ (A7.o.trans (hb.mono A7.o.size));have C1:=A9.o.below hb;have C2:=Aa.o.below hb;have r0:=C1.2.1 0 _ rfl;have r1:=C1.2.1 1 _ rfl;have Ah:=C1.2.2 1;have s0:=C2.2.1 0 _ rfl;have s1:=C2.2.1 1 _ rfl;have Ai:=C2.2.2 0;have Aj:=C2.2.2 1;have Ad:=q_ C2;clear A5 hb C1 C2 q0 q1;have Ag:¬b1=b2:=hne;have A8:¬b2=b1:=fun e=>hne e.symm
 go_wp2_with fail;have z:=((Ad.o.far (p:=(f_ b1 1)) hne (.slice A1 x.n c1)).set 0 (i_ x.id)).set 1 (.slice A1 x.n c1);have z0:=z.2.1 0 _ rfl;have z1:=z.2.1 1 _ rfl;refine bodyPost_ret (v:=.agg #[i_ x.id,.slice A1 x.n c1]) (by simp [results,results97,go_sem,z0,z1]) rfl ?_;exact ⟨A1,x.n,c1,rfl,((Ab.o.setCell (p:=(f_ b1 1)) A4.1 _).setCell (p:=(a_ b2)) A4.2 _).setCell (p:=(f_ b2 1)) A4.2 _⟩
theorem each_any (A:OA) (n c:Nat) (l:List Ob) (w:World) (hs:Sl w w 2 Ob.cells A n l) (hn:n<=1000000) (hobs:∀ o ∈ l,Sl w w 2 Val.cells o.A o.n o.s/\o.n<=1000000) :
  Calls prog 96 #[.slice A n c,.func (.func 97) #[] #[]] w (GivesS w):=by
 have HO:=q_ hobs;have HL:=q_ hs.len;clear hobs;go_enter func96,ntmps96;go_wp2_with fail;refine (CloneObj.any A n c (l.flatMap Ob.cells) w (hs.src Ob.size).1 (hs.src Ob.size).2 (by rw [cj_ Ob.size,HL.o]) o_ (ob_one l)).mono ?_;rintro e w1 ⟨A1,c1,rfl,A0,hb⟩;have Ak:=q_ hb;have A8:=q_ (Sl.da_ (cells:=Ob.cells) Ob.size HL.o A0);have Am:=q_ (own_lo A0 (l_));have Al:=h_ (∀ ad,A1=some ad->∀ j,w1.frozen? (f_ ad.block j)=false) (fun ad ha j=>by
  rcases A0.2 with ⟨h,_⟩ | ⟨g,cap,cur,h,_,hh,_⟩
  ·rw [ha] at h;injection h with h;cases h
  rw [ha] at h
  injection h with h
  injection h with h
  subst h
  simp [World.frozen?,hh])
 clear A0 hb hs;go_wp2_with fail;go_loopw [12] (fun i wr=>∃ j:Nat,j<=n/\i=i_ j/\Hid (∀ (ab ao:Nat),A1=some (f_ ab ao)->∀ (i:Nat) (o:Ob),j<=i->l[i]?=some o->wr.cell? ⟨ab,ao+i*2,none⟩=some (i_ o.id)/\wr.cell? ⟨ab,ao+i*2+1,none⟩=some (.slice o.A o.n o.c))/\Hid (0<n->∀ ad,A1=some ad->w<=ad.block/\ad.block<wr/\∀ j,wr.frozen? (f_ ad.block j)=false)/\Hid (Below w w wr)) (fun i _=>n - (intOf i).toNat)
 case atStart =>
  refine ⟨0,Nat.zero_le _,rfl,q_ (fun ab ao ha i o _ hi=>?_),q_ (fun Ab ad ha=>⟨Am.o ad ha,?_,Al.o ad ha⟩),Ak⟩
  ·have Aj:=(e_ hi).1;obtain ⟨Ae,Af,e,_,Ah⟩:=A8.o.at_ (by have:=HL.o;omega);rw [ha] at e;injection e with e;injection e with e1 e2;subst e1 e2;exact ⟨Ah i o hi 0 _ rfl,Ah i o hi 1 _ rfl⟩
  obtain ⟨Ae,Af,e,h,_⟩:=A8.o.at_ Ab;rw [ha] at e;injection e with e;subst e;exact h
 obtain ⟨j,hj,rfl,hC,hF,hb⟩:=hrel;by_cases Aj:j<n
 case neg =>
  obtain rfl:j=n:=by omega
  have An:¬(j:Int)<(j:Int):=by omega
  go_wp2_with fail;go_ret;exact ⟨_,_,_,rfl,hb.o⟩
 case pos =>
 have An:(j:Int)<(n:Int):=by omega
 obtain ⟨ab,ao,hA,Ao,_⟩:=A8.o.at_ o_;subst hA;obtain ⟨o,ho⟩:∃ o,l[j]?=some o:=⟨_,ge_ (by rw [HL.o];exact Aj)⟩;have c0:=(hC.o ab ao rfl j o (l_) ho).1;have Ag:=(hC.o ab ao rfl j o (l_) ho).2;have HX:=q_ ho;have A4:=(hF.o o_ _ rfl).2.1;have A5:=(hF.o o_ _ rfl).1;have A9:=(hF.o o_ _ rfl).2.2;have A6:=q_ ((b_).alloc (l_) _:Below wr wr (wr.alloc (.cells #[i_ o.id,.slice o.A o.n o.c] 90)));have Ad:=q_ (HO.o o (List.mem_of_getElem? HX.o));clear ho Ao;go_wp2_with fail;refine (dupObj_any o _ (Ad.o.1.up (hb.o.trans (A6.o.mono hb.o.size))) Ad.o.2).mono ?_;rintro e w2 ⟨A2,n2,k2,rfl,Ai⟩;have A3:=A6.o.trans (Ai.mono A6.o.size);have A7:=q_ A3;have d0:=(belc A3 A4).trans c0;have d1:=(belc A3 A4).trans Ag;have Aq:=(belf A3 (b:=ab) (o:=ao+j*2) A4).trans (A9 _);have Ar:=(belf A3 (b:=ab) (o:=ao+j*2+1) A4).trans (A9 _);have Aa:ab<w2:=lt_ A4 A3.size;clear c0 Ag Ai A3;go_wp2_with fail;go_roundw
 case rel =>
  refine ⟨j+1,o_,zb_,q_ (fun Ae Af ha i o' hi Ap=>?_),q_ (fun Ab ad ha=>⟨(hF.o Ab ad ha).1,?_,fun q=>?_⟩),q_ (((hb.o.trans (A7.o.mono hb.o.size)).setCell (p:=(f_ ab _)) A5 _).setCell (p:=(f_ ab _)) A5 _)⟩
  ·injection ha with ha;injection ha with h1 h2;subst h1 h2;have h:=hC.o ab ao rfl i o' o_ Ap;have e0:∀ q,q≠ao+j*2->q≠ao+j*2+1->((w2.setCell ⟨ab,ao+j*2,none⟩ (i_ o.id)).setCell ⟨ab,ao+j*2+1,none⟩ (.slice A2 n2 k2)).cell? (f_ ab q)=wr.cell? (f_ ab q):=fun q h1 h2=>by
    rw [World.cell?_setCell_other _ _ _ _ (fun e=>h2 (by injection e with _ e;exact e.symm)),World.cell?_setCell_other _ _ _ _ (fun e=>h1 (by injection e with _ e;exact e.symm))];exact belc A7.o A4
   exact ⟨(e0 _ o_ o_).trans h.1,(e0 _ o_ o_).trans h.2⟩
  ·injection ha with ha;subst ha;simp;exact Aa
  injection ha with ha;subst ha;rw [World.frozen?_setCell,World.frozen?_setCell];exact (belf A7.o A4).trans (A9 q)
 case measure=>simp [intOf] <;> omega
end Go.Proofs.YtfolidlmgfhkiaaGreat.Sq
namespace Go.Proofs.YtfolidlmgfhkiaaGreat
open Go.RowKit
structure SlP (w:World) (X:NP) (K:Nat) (p:VL->Prop) (e:List CT) (A:OA) (n c:Nat):Prop where
 sl:SlT w X K e A n c
 ok:∀ k,k<n->∃ g o vs,A=some (f_ g o)/\VTs w X K e vs/\(∀ j u,vs[j]?=some u->w.cell? ⟨g,o+(k*e.length+j),none⟩=some u)/\p vs
section
variable {X Y Y':NP} {w w':World} {K K' n c k:Nat} {p:VL->Prop} {e:List CT} {A:OA} {v:Value}
theorem VT.dh_ (h:VT w X K (.lst p e) v):∃ A n c,v=.slice A n c/\SlP w X K p e A n c:=by
 cases h with
 | lnil=>exact ⟨none,0,0,rfl,⟨Nat.zero_le _,l_,o_,fun _=>⟨rfl,rfl⟩,fun _ h=>by cases h⟩,fun k hk=>o_⟩
 | lst _ _ g o n c f hg hX hn hc hm hf ht hp =>
  refine ⟨_,n,c,rfl,⟨hn,hc,hm,x_,(fun ad h=>by injection h with h;exact ⟨g,o,h.symm,hg,hX,f,hf,ht⟩)⟩,fun k hk=>⟨g,o,_,rfl,⟨zj_,fun j t hj=>⟨f k j,?_,ht k j t hk hj⟩⟩,fun j u hu=>?_,hp k hk⟩⟩
  ·have:j<e.length:=(e_ hj).1;simp [this]
  have hj:j<e.length:=by have:=(e_ hu).1;simpa using this
  simp [hj] at hu;subst hu;exact hf k j _ hk (ge_ hj)
theorem SlP.vt (h:SlP w X K p e A n c):VT w X K (.lst p e) (.slice A n c):=by
 cases A with
 | none=>obtain ⟨rfl,rfl⟩:=h.sl.nul rfl;exact .lnil p e
 | some ad =>
  obtain ⟨g,o,rfl,hg,hX,_⟩:=h.sl.at_ _ rfl;obtain ⟨l,hl,hR⟩:=list_choose (n:=n) (R:=fun k vs=>VTs w X K e vs/\(∀ j u,vs[j]?=some u->w.cell? ⟨g,o+(k*e.length+j),none⟩=some u)/\p vs) (fun k hk=>by
   obtain ⟨g',o',vs,hA,h1,h2,h3⟩:=h.ok k hk
   injection hA with hA
   injection hA with q1 q2
   subst q1 q2
   exact ⟨vs,h1,h2,h3⟩)
  refine .lst p e g o n c (fun k j=>((l[k]?).getD [])[j]?.getD undef) hg hX h.sl.le h.sl.cap h.sl.max (fun k j t hk hj=>?_) (fun k j t hk hj=>?_) (fun k hk=>?_)
  ·obtain ⟨h1,h2,h3⟩:=hR k _ (ge_ (by omega:k<l.length));obtain ⟨u,hu,_⟩:=h1.2 j t hj;rw [ge_ (by omega:k<l.length),Option.getD_some,hu];exact h2 j u hu
  ·obtain ⟨h1,h2,h3⟩:=hR k _ (ge_ (by omega:k<l.length));obtain ⟨u,hu,hv⟩:=h1.2 j t hj;rw [ge_ (by omega:k<l.length),Option.getD_some,hu];exact hv
  obtain ⟨h1,h2,h3⟩:=hR k _ (ge_ (by omega:k<l.length));rw [ge_ (by omega:k<l.length),Option.getD_some];have:(List.range e.length).map (fun j=>(l[k]'o_)[j]?.getD undef)=l[k]'o_:=by
   apply List.ext_getElem?;intro j;by_cases hj:j<e.length
   ·have A0:j<(l[k]'o_).length:=by rw [h1.1];exact hj
    rw [List.getElem?_map,List.getElem?_range hj,Option.map_some,ge_ A0,Option.getD_some]
   rw [List.getElem?_eq_none zp_,List.getElem?_eq_none (by rw [h1.1];omega)]
  rw [this];exact h3
theorem SlP.go (h:SlP w Y K p e A n c) (u:Up w Y w' Y') (hK:K<=K'):SlP w' Y' K' p e A n c:=by
 obtain ⟨A',n',c',e',h'⟩:=(h.vt.go u hK).dh_;exact v0_
theorem SlP.below (h:SlP w Y K p e A n c) (hb:Below w w w'):SlP w' Y K p e A n c:=h.go (.of_below hb) (l_)
theorem SlP.nil (w:World) (X:NP) (K:Nat) (p:VL->Prop) (e:List CT):SlP w X K p e none 0 0:=⟨⟨Nat.zero_le _,l_,o_,fun _=>⟨rfl,rfl⟩,fun _ h=>by cases h⟩,fun k hk=>o_⟩
theorem SlP.el (h:SlP w X K p e A n c) (hk:k<n):∃ g o vs,A=some (f_ g o)/\g<w/\¬X g/\VTs w X K e vs/\p vs/\∀ j u,vs[j]?=some u->w.cell? ⟨g,o+k*e.length+j,none⟩=some u:=by
 obtain ⟨g,o,vs,rfl,h1,h2,h3⟩:=h.ok k hk;obtain ⟨g',o',hA,hg,hX,_⟩:=h.sl.at_ _ rfl;injection hA with q1 q2;subst q1 q2;exact ⟨g,o,vs,rfl,hg,hX,h1,h3,fun j u hu=>by rw [Nat.add_assoc];exact h2 j u hu⟩
theorem SlP.weak {p':VL->Prop} {e':List CT} (h:SlP w X K p e A n c) (hl:e'.length=e.length) (hp:∀ vs,VTs w X K e vs->p vs->VTs w X K e' vs/\p' vs):SlP w X K p' e' A n c:=by
 have A1:∀ k,k<n->∃ g o vs,A=some (f_ g o)/\VTs w X K e' vs/\(∀ j u,vs[j]?=some u->w.cell? ⟨g,o+(k*e'.length+j),none⟩=some u)/\p' vs:=fun k hk=>by
  obtain ⟨g,o,vs,hA,h1,h2,h3⟩:=h.ok k hk;exact ⟨g,o,vs,hA,(hp vs h1 h3).1,by rw [hl];exact h2,(hp vs h1 h3).2⟩
 refine ⟨⟨h.sl.le,h.sl.cap,h.sl.max,h.sl.nul,fun ad hA=>?_⟩,A1⟩;obtain ⟨g,o,rfl,hg,hX,f,hf,ht⟩:=h.sl.at_ ad hA;refine ⟨g,o,rfl,hg,hX,f,fun k j t hk hj=>?_,fun k j t hk hj=>?_⟩
 ·rw [hl];have:j<e.length:=by rw [<-hl];exact (e_ hj).1
  exact hf k j _ hk (ge_ this)
 have A2:j<e.length:=by rw [<-hl];exact (e_ hj).1
 obtain ⟨g',o',vs,A0,h1,h2,h3⟩:=A1 k hk;rw [hA] at A0;injection A0 with A0;injection A0 with q1 q2;subst q1 q2;obtain ⟨u,hu,hv⟩:=h1.2 j t hj;have h4:=h2 j u hu;rw [hl,hf k j _ hk (ge_ A2)] at h4;injection h4 with h4;rw [h4];exact hv
theorem SlP.da_ {base:Nat} {et:TypeId} {xs:VL} (ho:w.ownsRow base et e.length (.slice A n c) n xs) (hb:∀ k,X k->k<base) (hn:n<=K)
  (hx:∀ k,k<n->∃ vs,VTs w X K e vs/\(∀ j u,vs[j]?=some u->xs[k*e.length+j]?=some u)/\p vs):SlP w X K p e A n c:=by
 refine ⟨SlT.da_ ho hb hn (fun k j t hk hj=>?_),fun k hk=>?_⟩
 ·obtain ⟨vs,h1,h2,h3⟩:=hx k hk;obtain ⟨u,hu,hv⟩:=h1.2 j t hj;exact ⟨u,h2 j u hu,hv⟩
 obtain ⟨vs,h1,h2,h3⟩:=hx k hk;rcases ho.2 with ⟨h',h''⟩ | ⟨g,cap,cur,h',_⟩
 ·exfalso;injection h' with q1 q2 q3;omega
 injection h' with q1 q2 q3;subst q1;have A0:=(own_src ho).2 _ rfl;refine ⟨g,0,vs,rfl,h1,fun j u hu=>?_,h3⟩;have:=A0 _ u (h2 j u hu)
 rwa [Addr.add_lit] at this
end
/- The shapes of programs. -/
def noP:VL->Prop:=fun _=>False
def pE (vs:VL):Prop:=∃ (kd n:Int) (s:ByteArray) (op:Int) (A:OA) (m c:Nat),vs=[i_ kd,i_ n,.string s,i_ op,.slice A m c]/\(kd=4->1<=m)/\(kd=5->2<=m)/\s.size<=100
def ay_:Nat->List CT
 | 0=>[.num,.num,.txt,.num,.lst noP []]
 | d+1=>[.num,.num,.txt,.num,.lst pE (ay_ d)]
def nameF : ByteArray := "f".toByteArray
def nameG : ByteArray := "g".toByteArray
def pS (vs:VL):Prop:=∃ (kd:Int) (s f:ByteArray) (n op:Int) (A B C:OA) (m c m1 c1 m2 c2:Nat),vs=[i_ kd,.string s,.string f,i_ n,i_ op,.slice A m c,.slice B m1 c1,.slice C m2 c2]/\(kd=5->2<=m)/\(kd=6->1<=m)/\(kd=3->f=nameF\/f=nameG)/\s.size<=100/\f.size<=100
abbrev dE:Nat:=4
def ah_:Nat->List CT
 | 0=>[.num,.txt,.txt,.num,.num,.lst pE (ay_ dE),.lst noP [],.lst noP []]
 | d+1=>[.num,.txt,.txt,.num,.num,.lst pE (ay_ dE),.lst pS (ah_ d),.lst pS (ah_ d)]
def strP (v:Value):Prop:=∃ s:ByteArray,v=.string s/\s.size<=100
def cx_ (d:Nat):List CT:=[.sat strP,.sl [.sat strP],.lst pS (ah_ d)]
section
variable {X:NP} {w:World} {K:Nat}
theorem dx_ (d:Nat):(ay_ d).length=5:=by cases d <;> rfl
theorem by_ (d:Nat):(ah_ d).length=8:=by cases d <;> rfl
theorem VTs.expr {d:Nat} {vs:VL} (h:VTs w X K (ay_ (d+1)) vs):∃ (kd n:Int) (s:ByteArray) (op:Int) (A:OA) (m c:Nat),vs=[i_ kd,i_ n,.string s,i_ op,.slice A m c]/\SlP w X K pE (ay_ d) A m c:=by
 obtain ⟨a,r1,rfl,ha,h1⟩:=h.head;obtain ⟨b,r2,rfl,hb,h2⟩:=h1.head;obtain ⟨s,r3,rfl,hs,h3⟩:=h2.head;obtain ⟨o,r4,rfl,ho,h4⟩:=h3.head;obtain ⟨l,r5,rfl,hl,h5⟩:=h4.head;obtain ⟨kd,rfl⟩:=ha.int;obtain ⟨n,rfl⟩:=hb.int;obtain ⟨s,rfl⟩:=hs.str;obtain ⟨op,rfl⟩:=ho.int;obtain ⟨A,m,c,rfl,hp⟩:=hl.dh_;rw [h5.end];exact ⟨kd,n,s,op,A,m,c,rfl,hp⟩
theorem VTs.expr0 {vs:VL} (h:VTs w X K (ay_ 0) vs):∃ (kd n:Int) (s:ByteArray) (op:Int) (A:OA) (c:Nat),vs=[i_ kd,i_ n,.string s,i_ op,.slice A 0 c]:=by
 obtain ⟨a,r1,rfl,ha,h1⟩:=h.head;obtain ⟨b,r2,rfl,hb,h2⟩:=h1.head;obtain ⟨s,r3,rfl,hs,h3⟩:=h2.head;obtain ⟨o,r4,rfl,ho,h4⟩:=h3.head;obtain ⟨l,r5,rfl,hl,h5⟩:=h4.head;obtain ⟨kd,rfl⟩:=ha.int;obtain ⟨n,rfl⟩:=hb.int;obtain ⟨s,rfl⟩:=hs.str;obtain ⟨op,rfl⟩:=ho.int;obtain ⟨A,m,c,rfl,hp⟩:=hl.dh_;have hm:m=0:=by
  rcases Nat.eq_zero_or_pos m with h | h
  ·exact h
  obtain ⟨_,_,_,_,_,_,h3⟩:=hp.ok 0 h;exact h3.elim
 subst hm;rw [h5.end];exact ⟨kd,n,s,op,A,c,rfl⟩
theorem exprT_up (d:Nat):∀ vs,VTs w X K (ay_ d) vs->pE vs->VTs w X K (ay_ (d+1)) vs/\pE vs:=by
 induction d with
 | zero =>
  intro vs h hp;refine ⟨?_,hp⟩;obtain ⟨a,r1,rfl,ha,h1⟩:=h.head;obtain ⟨b,r2,rfl,hb,h2⟩:=h1.head;obtain ⟨s,r3,rfl,hs,h3⟩:=h2.head;obtain ⟨o,r4,rfl,ho,h4⟩:=h3.head;obtain ⟨l,r5,rfl,hl,h5⟩:=h4.head;rw [h5.end];obtain ⟨A,m,c,rfl,hs⟩:=hl.dh_;have hm:m=0:=by
   rcases Nat.eq_zero_or_pos m with h | h
   ·exact h
   obtain ⟨_,_,_,_,_,_,h3⟩:=hs.ok 0 h;exact h3.elim
  subst hm;exact VTs.cons ha (VTs.cons hb (VTs.cons ‹_› (VTs.cons ho (VTs.cons (SlP.vt ⟨⟨Nat.zero_le _,Nat.zero_le _,hs.sl.max,hs.sl.nul,fun ad hA=>by
   obtain ⟨g,o,e,hg,hX,f,_⟩:=hs.sl.at_ ad hA
   exact ⟨g,o,e,hg,hX,f,fun k j t hk=>o_,fun k j t hk=>o_⟩⟩,fun k hk=>o_⟩) VTs.nil))))
 | succ d ih =>
  intro vs h hp;refine ⟨?_,hp⟩;obtain ⟨a,r1,rfl,ha,h1⟩:=h.head;obtain ⟨b,r2,rfl,hb,h2⟩:=h1.head;obtain ⟨s,r3,rfl,hs,h3⟩:=h2.head;obtain ⟨o,r4,rfl,ho,h4⟩:=h3.head;obtain ⟨l,r5,rfl,hl,h5⟩:=h4.head;rw [h5.end];obtain ⟨A,m,c,rfl,A0⟩:=hl.dh_;exact VTs.cons ha (VTs.cons hb (VTs.cons hs (VTs.cons ho (VTs.cons (A0.weak (by rw [dx_,dx_]) ih).vt VTs.nil))))
theorem exprT_le {d d':Nat} (h:d<=d') {vs:VL} (hv:VTs w X K (ay_ d) vs) (hp:pE vs):VTs w X K (ay_ d') vs:=by
 induction h with
 | refl=>exact hv
 | step _ ih=>exact (exprT_up _ vs ih hp).1
theorem VTs.stmt {d:Nat} {vs:VL} (h:VTs w X K (ah_ (d+1)) vs):∃ (kd:Int) (s f:ByteArray) (n op:Int) (A B C:OA) (m c m1 c1 m2 c2:Nat),vs=[i_ kd,.string s,.string f,i_ n,i_ op,.slice A m c,.slice B m1 c1,.slice C m2 c2]/\SlP w X K pE (ay_ dE) A m c/\SlP w X K pS (ah_ d) B m1 c1/\SlP w X K pS (ah_ d) C m2 c2:=by
 obtain ⟨a,r1,rfl,ha,h1⟩:=h.head;obtain ⟨s,r2,rfl,hs,h2⟩:=h1.head;obtain ⟨f,r3,rfl,hf,h3⟩:=h2.head;obtain ⟨n,r4,rfl,hn,h4⟩:=h3.head;obtain ⟨o,r5,rfl,ho,h5⟩:=h4.head;obtain ⟨l,r6,rfl,hl,h6⟩:=h5.head;obtain ⟨x,r7,rfl,hx,h7⟩:=h6.head;obtain ⟨y,r8,rfl,hy,h8⟩:=h7.head;obtain ⟨kd,rfl⟩:=ha.int;obtain ⟨s,rfl⟩:=hs.str;obtain ⟨f,rfl⟩:=hf.str;obtain ⟨n,rfl⟩:=hn.int;obtain ⟨op,rfl⟩:=ho.int;obtain ⟨A,m,c,rfl,hp⟩:=hl.dh_;obtain ⟨B,m1,c1,rfl,A0⟩:=hx.dh_;obtain ⟨C,m2,c2,rfl,A1⟩:=hy.dh_;rw [h8.end];exact ⟨kd,s,f,n,op,A,B,C,m,c,m1,c1,m2,c2,rfl,hp,A0,A1⟩
theorem SlP.none_of {e:List CT} {A:OA} {n c:Nat} (h:SlP w X K noP e A n c):n=0:=by
 rcases Nat.eq_zero_or_pos n with h1 | h1
 ·exact h1
 obtain ⟨_,_,_,_,_,_,h3⟩:=h.ok 0 h1;exact h3.elim
theorem SlP.empty {p p':VL->Prop} {e e':List CT} {A:OA} {c:Nat} (h:SlP w X K p e A 0 c):SlP w X K p' e' A 0 c :=
 ⟨⟨Nat.zero_le _,Nat.zero_le _,h.sl.max,h.sl.nul,fun ad hA=>by
   obtain ⟨g,o,e,hg,hX,f,_⟩:=h.sl.at_ ad hA
   exact ⟨g,o,e,hg,hX,f,fun k j t hk=>o_,fun k j t hk=>o_⟩⟩,fun k hk=>o_⟩
theorem VTs.stmt0 {vs:VL} (h:VTs w X K (ah_ 0) vs):∃ (kd:Int) (s f:ByteArray) (n op:Int) (A B C:OA) (m c c1 c2:Nat),vs=[i_ kd,.string s,.string f,i_ n,i_ op,.slice A m c,.slice B 0 c1,.slice C 0 c2]/\SlP w X K pE (ay_ dE) A m c/\SlP w X K noP [] B 0 c1/\SlP w X K noP [] C 0 c2:=by
 obtain ⟨a,r1,rfl,ha,h1⟩:=h.head;obtain ⟨s,r2,rfl,hs,h2⟩:=h1.head;obtain ⟨f,r3,rfl,hf,h3⟩:=h2.head;obtain ⟨n,r4,rfl,hn,h4⟩:=h3.head;obtain ⟨o,r5,rfl,ho,h5⟩:=h4.head;obtain ⟨l,r6,rfl,hl,h6⟩:=h5.head;obtain ⟨x,r7,rfl,hx,h7⟩:=h6.head;obtain ⟨y,r8,rfl,hy,h8⟩:=h7.head;obtain ⟨kd,rfl⟩:=ha.int;obtain ⟨s,rfl⟩:=hs.str;obtain ⟨f,rfl⟩:=hf.str;obtain ⟨n,rfl⟩:=hn.int;obtain ⟨op,rfl⟩:=ho.int;obtain ⟨A,m,c,rfl,hp⟩:=hl.dh_;obtain ⟨B,m1,c1,rfl,A0⟩:=hx.dh_;obtain ⟨C,m2,c2,rfl,A1⟩:=hy.dh_;obtain rfl:=A0.none_of;obtain rfl:=A1.none_of;rw [h8.end];exact ⟨kd,s,f,n,op,A,B,C,m,c,c1,c2,rfl,hp,A0,A1⟩
theorem vts_stmt {d:Nat} {kd:Int} {s f:ByteArray} {n op:Int} {A B C:OA} {m c m1 c1 m2 c2:Nat} (h:SlP w X K pE (ay_ dE) A m c) (h1:SlP w X K pS (ah_ d) B m1 c1) (h2:SlP w X K pS (ah_ d) C m2 c2):VTs w X K (ah_ (d+1)) [i_ kd,.string s,.string f,i_ n,i_ op,.slice A m c,.slice B m1 c1,.slice C m2 c2] :=
 VTs.cons (.num _) (VTs.cons (.txt _) (VTs.cons (.txt _) (VTs.cons (.num _) (VTs.cons (.num _) (VTs.cons h.vt (VTs.cons h1.vt (VTs.cons h2.vt VTs.nil)))))))
theorem vts_stmt0 {kd:Int} {s f:ByteArray} {n op:Int} {A B C:OA} {m c c1 c2:Nat} (h:SlP w X K pE (ay_ dE) A m c) (h1:SlP w X K noP [] B 0 c1) (h2:SlP w X K noP [] C 0 c2):VTs w X K (ah_ 0) [i_ kd,.string s,.string f,i_ n,i_ op,.slice A m c,.slice B 0 c1,.slice C 0 c2] :=
 VTs.cons (.num _) (VTs.cons (.txt _) (VTs.cons (.txt _) (VTs.cons (.num _) (VTs.cons (.num _) (VTs.cons h.vt (VTs.cons h1.vt (VTs.cons h2.vt VTs.nil)))))))
theorem stmtT_up (d:Nat):∀ vs,VTs w X K (ah_ d) vs->pS vs->VTs w X K (ah_ (d+1)) vs/\pS vs:=by
 induction d with
 | zero =>
  intro vs h hp;obtain ⟨kd,s,f,n,op,A,B,C,m,c,c1,c2,rfl,h1,h2,h3⟩:=h.stmt0;exact ⟨vts_stmt h1 h2.empty h3.empty,hp⟩
 | succ d ih =>
  intro vs h hp;obtain ⟨kd,s,f,n,op,A,B,C,m,c,m1,c1,m2,c2,rfl,h1,h2,h3⟩:=h.stmt;exact ⟨vts_stmt h1 (h2.weak (by rw [by_,by_]) ih) (h3.weak (by rw [by_,by_]) ih),hp⟩
theorem stmtT_le {d d':Nat} (h:d<=d') {vs:VL} (hv:VTs w X K (ah_ d) vs) (hp:pS vs):VTs w X K (ah_ d') vs:=by
 induction h with
 | refl=>exact hv
 | step _ ih=>exact (stmtT_up _ vs ih hp).1
end
theorem Fr.cv_ {X Z:NP} {w0 w w':World} {L:List LV} {Y:NP} {C:Nat->VL} {i j b:Nat} {K:Nat->Nat} {ts:List CT} {ow:Nat->Option TypeId} {t:CT} {et:TypeId} {v:Value} (h:Fr X Z w0 L Y C w) (hp:L[i]?=some ⟨b,K,ts,ow⟩) (hj:ts[j]?=some t) (ho:ow j=some et) (hC:(C b)[j]?=some v) (hg:w.grownBy w' v.ownBlock):Bx w' b (C b):=by
 obtain ⟨e,A,n,c,h1,h2,h3,h4,h5⟩:=h.row _ (Fr.mem hp) j t et hj ho;rw [show (C b)[j]?=some (.slice A n c) from h2] at hC;injection hC with hC;subst hC;exact (h.box hp).kp (X:=fun k=>(Value.slice A n c).ownBlock=some k) ((Kp.refl _ w).grown hg (fun g hg=>.inl hg)) (fun he=>(h5 b he).2.2 _ (Fr.mem hp) rfl)
theorem Fr.grown_any {X Z:NP} {w0 w w':World} {L:List LV} {Y:NP} {C:Nat->VL} {i j b:Nat} {K:Nat->Nat} {ts:List CT} {ow:Nat->Option TypeId} {t:CT} {et:TypeId} {v:Value} (h:Fr X Z w0 L Y C w) (hp:L[i]?=some ⟨b,K,ts,ow⟩) (hj:ts[j]?=some t) (ho:ow j=some et) (hC:(C b)[j]?=some v) (hg:w.grownBy w' v.ownBlock) (q:Nat) (p:LV) (hq:L[q]?=some p):Bx w' p.b (C p.b):=by
 obtain ⟨e,A,n,c,h1,h2,h3,h4,h5⟩:=h.row _ (Fr.mem hp) j t et hj ho;rw [show (C b)[j]?=some (.slice A n c) from h2] at hC;injection hC with hC;subst hC;exact (h.blk p (List.mem_of_getElem? hq)).2.2.1.kp (X:=fun k=>(Value.slice A n c).ownBlock=some k) ((Kp.refl _ w).grown hg (fun g hg=>.inl hg)) (fun he=>(h5 p.b he).2.2 _ (List.mem_of_getElem? hq) rfl)
theorem OwT.any {w:World} {base K n c:Nat} {et:TypeId} {e:List CT} {X:NP} {A:OA} (h:OwT w base et e X K A n c) (hn:n<=K):SlT w (fun _=>False) K e A n c :=
 (h.sub (Y':=fun _=>False) (fun _ _ h=>h.elim) (l_)).slT (fun _ h=>h.elim) hn
theorem results0 {P:Program} {fn:Func} (h:fn.results=#[]) (tmps:Array Value) (w:World):(results fn tmps).run P w=.ok (.tuple #[]) w:=by
 unfold results;rw [h];simp
theorem end0 {P:Program} {fn:Func} {R:Ending->World->Prop} {a:Act} {w:World} (hr:fn.results=#[]) (hd:a.defers=[]) (hR:R (.returned (.tuple #[])) w):bodyPost P fn R .normal a w:=bodyPost_end (results0 hr _ _) hd hR
theorem ret0 {P:Program} {fn:Func} {R:Ending->World->Prop} {a:Act} {w:World} (hr:fn.results=#[]) (hd:a.defers=[]) (hR:R (.returned (.tuple #[])) w):bodyPost P fn R .ret a w:=bodyPost_ret (results0 hr _ _) hd hR
end Go.Proofs.YtfolidlmgfhkiaaGreat
namespace Go.Proofs.YtfolidlmgfhkiaaGreat
open Go.RowKit Go.Proofs.Tryz
theorem au_:(prog.info? 65).map (·.size)=some ae_.length:=by kernel_rfl
theorem isz_62:(prog.info? 62).map (·.size)=some cpuT.length:=by kernel_rfl
theorem isz_145:(prog.info? 145).map (·.size)=some effT.length:=by kernel_rfl
theorem du_:(prog.info? 40).map (·.size)=some comT.length:=by kernel_rfl
theorem ei_cell:EI prog 54 87 ap_ 32:=EI.of (z:=.agg #[i_ 0,i_ 0,.bool false,i_ 0]) underlying54 k_ rfl d_
theorem ei_obj:EI prog 33 90 objT 32:=EI.of (z:=.agg #[i_ 0,.slice none 0 0]) underlying33 k_ rfl d_
theorem bw_:EI prog 63 174 bj_ 40:=EI.of (z:=.agg #[i_ 0,i_ 0,i_ 0,.bool false,i_ 0]) underlying63 k_ rfl d_
theorem ei_act:EI prog 36 152 actT 24:=EI.of (z:=.agg #[.bool false,i_ 0,i_ 0]) underlying36 k_ rfl d_
section
variable {X:NP} {w:World} {K:Nat}
theorem cp_ (w:World) (X:NP) (K:Nat) (e:List CT):SlT w X K e none 0 0:=⟨Nat.zero_le _,l_,o_,fun _=>⟨rfl,rfl⟩,fun _ h=>by cases h⟩
theorem vts1 {A:OA} {n c:Nat} {e:List CT} (h:SlT w X K e A n c):VTs w X K [.sl e] [.slice A n c]:=VTs.cons h.vt VTs.nil
theorem vtsval (b:Bool) (n:Int):VTs w X K valT [.bool b,i_ n]:=VTs.cons (.tru _) (VTs.cons (.num _) VTs.nil)
end
end Go.Proofs.YtfolidlmgfhkiaaGreat
namespace Go.Proofs.YtfolidlmgfhkiaaGreat
open Go.RowKit
theorem zero_at {z:Array Value} {n k j:Nat} {u:Value} (hk:k<n) (hu:z[j]?=some u):(Builtin.zeroCells z n).toList[k*z.size+j]?=some u:=by
 obtain ⟨hj,rfl⟩:=Array.getElem?_eq_some_iff.1 hu;have A0:k*z.size+j<n*z.size:=by
  have:(k+1)*z.size<=n*z.size:=Nat.mul_le_mul_right _ hk;rw [Nat.add_mul] at this;omega
 have hm:(k*z.size+j) % z.size=j:=by rw [Nat.mul_comm,Nat.mul_add_mod,Nat.mod_eq_of_lt hj]
 rw [Array.getElem?_toList];unfold Builtin.zeroCells;rw [Array.getElem?_map,Array.getElem?_range,if_pos A0,Option.map_some,hm,getElem!_pos z j hj]
theorem zeros_one {z:Array Value} {n:Nat} (h:∀ u ∈ z.toList,u.oneCell'=true) (hz:0<z.size):∀ u ∈ (Builtin.zeroCells z n).toList,u.oneCell'=true:=fun u hu=>by
 unfold Builtin.zeroCells at hu;rw [Array.toList_map,List.mem_map] at hu;obtain ⟨i,_,rfl⟩:=hu;have hi:i % z.size<z.size:=Nat.mod_lt _ hz;rw [getElem!_pos z _ hi];exact h _ t_
section
variable {P:Program}
theorem run_append_zeros_own (w:World) (base:Nat) (t tn ty e:TypeId) (i:TypeInfo) (z:Value) (size bytes:Nat) (kq kn:IntKind) (ht:P.underlying t=some (.slice e)) (htn:P.underlying tn=some (.int kn)) (hi:P.info? e=some i) (hz:i.zero=some z)
  (hsize:i.size=size) (hby:i.bytes=bytes) (hzs:z.cells.size=size) (hsz:0<size) (h1:∀ u ∈ z.cells.toList,u.oneCell'=true)
  (A:OA) (n c:Nat) (xs:VL) (hown:w.ownsRow base e size (.slice A n c) n xs) (m:Nat)
  (h63:n+m<=maxLen) (hbytes:(n+m)*bytes<=140737488355328) (hbase:base<=w) :
  ∃ A' c' w',(Builtin.append_ #[t,tn] ty #[.slice A n c,.int kq m]).run P w=.ok (.slice A' (n+m) c') w'/\w'.ownsRow base e size (.slice A' (n+m) c') (n+m) (xs ++ (Builtin.zeroCells z.cells m).toList)/\w.grownBy w' (Value.slice A n c).ownBlock ∧
   (∀ g,(Value.slice A' (n+m) c').ownBlock=some g->(Value.slice A n c).ownBlock=some g\/g=w):=by
 subst hsize;subst hby;have A9:n+m<=9223372036854775807:=by simp only [maxLen] at h63;omega
 have hw:IntKind.i64.wrap (m:Int)=m:=by rw [IntKind.wrap_i64];omega
 have A8:¬((m:Int)<0):=by omega
 have Aj:m*i.bytes<=140737488355328:=Nat.le_trans (Nat.mul_le_mul_right _ (Nat.le_add_left m n)) hbytes;have A5:¬(281474976710656<(m:Int)*(i.bytes:Int)):=by
  rw [<-Int.natCast_mul];omega
 have Aa:(Builtin.zeroCells z.cells m).toList.length=m*i.size:=by rw [Array.length_toList,size_zeroCells,hzs]
 have A0:(xs ++ (Builtin.zeroCells z.cells m).toList).length=(n+m)*i.size:=by rw [List.length_append,hown.1,Aa,Nat.add_mul]
 rcases Nat.eq_zero_or_pos m with rfl | hm
 ·have Ah:(Builtin.zeroCells z.cells 0).toList=[]:=List.eq_nil_of_length_eq_zero (by rw [Aa];omega);refine ⟨A,c,w,?_,by rw [Ah,List.append_nil];exact hown,⟨rfl,rfl,rfl,l_,fun _ _ _=>rfl⟩,fun g hg=>.inl hg⟩;have A7:n<=c:=(dk_ hown).1;have Ac:IntKind.i64.wrap 0=0:=rfl;have Ai:¬(281474976710656<(0:Int)*(i.bytes:Int)):=by omega
  cases A with
  | none=>simp [Builtin.append_,run_underlying ht,run_underlying htn,sizeOf,typeInfo,hi,asInt,asIntOf,Ac,A7]
  | some ad=>simp [Builtin.append_,run_underlying ht,run_underlying htn,sizeOf,typeInfo,hi,asInt,asIntOf,Ac,A7,storeCells]
 have grown:∀ (A1:Nat),A1<n+m->∀ (row:Option Nat),
   (w.drew.alloc (.cells (xs.toArray ++ Builtin.zeroCells z.cells m ++ Builtin.zeroCells z.cells (grownCap w (n+m) A1 e - (n+m))) e)).ownsRow base e i.size
    (.slice (some (a_ w)) (n+m) (grownCap w (n+m) A1 e)) (n+m) (xs ++ (Builtin.zeroCells z.cells m).toList) ∧
   w.grownBy (w.drew.alloc (.cells (xs.toArray ++ Builtin.zeroCells z.cells m ++ Builtin.zeroCells z.cells (grownCap w (n+m) A1 e - (n+m))) e)) row:=by
  intro A1 ho row;have Ad:=grownCap_ge w (n+m) A1 e;have A6:grownCap w (n+m) A1 e<=maxLen:=grownCap_le_maxLen w (n+m) A1 e h63;refine ⟨⟨A0,.inr ⟨w,_,_,rfl,hbase,heap_alloc_new w.drew _,Ad,A6,?_,?_⟩⟩,⟨rfl,rfl,rfl,zj_,fun k hk _=>Below.heap_alloc _ _ _ hk⟩⟩
  ·simp only [Array.size_append,List.size_toArray,size_zeroCells,hzs,hown.1,<-Nat.add_mul]
   congr 1
   omega
  simp only [Array.toList_append];rw [<-A0];exact List.take_left
 rcases hown.2 with ⟨hA,rfl⟩ | ⟨g,cap,cur,hA,hbg,hg,A7,A6,hcs,htake⟩
 ·injection hA with q1 q2 q3;subst q1 q3;have hx:xs=[]:=List.eq_nil_of_length_eq_zero (by simpa using hown.1);subst hx;have hr:=Lib.run_append_nil_zeros (P:=P) w t tn ty e i z kq kn ht htn hi hz m hm hsz o_ o_;have A2:=grown 0 o_ (Value.ownBlock (.slice none 0 0));simp only [Nat.zero_add,List.nil_append,Array.empty_append] at A2 ⊢;exact tg_
 injection hA with q1 q2 q3;subst q1 q3;by_cases hroom:n+m<=c
 ·have A3:n*i.size+(Builtin.zeroCells z.cells m).toList.length<=cur.size:=by rw [Aa,hcs,<-Nat.add_mul];exact Nat.mul_le_mul_right _ hroom
  have Ab:=run_storeCells_at P g (n*i.size) e (Builtin.zeroCells z.cells m).toList 0 cur w hg (by simpa using A3) (zeros_one h1 (by rw [hzs];exact hsz));simp only [Nat.add_zero] at Ab;have Af:¬(m*i.size=0):=Nat.mul_ne_zero o_ o_;refine ⟨some (a_ g),c,w.setRow g (cur.toList.take (n*i.size) ++ (Builtin.zeroCells z.cells m).toList ++ cur.toList.drop (n*i.size+(Builtin.zeroCells z.cells m).toList.length)).toArray,?_,⟨A0,.inr ⟨g,c,_,rfl,hbg,setRow_heap w g cur _ e _ hg,hroom,A6,?_,?_⟩⟩,⟨rfl,rfl,rfl,zj_,fun k _ hk=>setRow_other w g k _ (fun e=>hk (by simp [Value.ownBlock,e]))⟩,fun q hq=>.inl hq⟩
  ·have Ae:m≠0:=by omega
   have Ag:i.size≠0:=by omega
   simp [Builtin.append_,run_underlying ht,run_underlying htn,sizeOf,typeInfo,zeroValue,hi,hz,asInt,asIntOf,hw,A8,A5,Af,Ae,Ag,hroom,Addr.add_lit,Ab]
  ·simp only [List.size_toArray,List.length_append,List.length_take,List.length_drop,Array.length_toList];rw [Array.length_toList] at A3;omega
  rw [htake,<-A0];exact List.take_left
 have A4:∀ j u,xs[j]?=some u->w.drew.cell? (((a_ g):Addr).add j)=some u:=hown.cells (g:=g) rfl;have hf:=run_firstCells_some (P:=P) w.drew i.size n (a_ g) n c xs hown.1 A4;have hr:=Lib.run_append_grow_zeros (P:=P) w t tn ty e i z kq kn ht htn hi hz (some (a_ g)) n c xs hf m hm hsz o_ o_ o_ (growslice_fits o_ hbytes);have A2:=grown c o_ (Value.ownBlock (.slice (some (a_ g)) n c));exact tg_
theorem run_append_zeros_t (w:World) (base:Nat) (t tn ty et:TypeId) (i:TypeInfo) (z:Value) (bytes:Nat) (kq kn:IntKind) (e:List CT) (X:NP) (K:Nat) (ht:P.underlying t=some (.slice et)) (htn:P.underlying tn=some (.int kn)) (hi:P.info? et=some i) (hz:i.zero=some z)
  (hsize:i.size=e.length) (hby:i.bytes=bytes) (hzc:z.cells=(e.map CT.zero).toArray) (hzk:e.all CT.zok=true) (hsz:0<e.length)
  (A:OA) (n c:Nat) (hown:OwT w base et e X K A n c) (m:Nat) (hX:∀ k,X k->k<w) (h63:n+m<=maxLen) (hbytes:(n+m)*bytes<=140737488355328) (hbase:base<=w) :
  ∃ A' c' w',(Builtin.append_ #[t,tn] ty #[.slice A n c,.int kq m]).run P w=.ok (.slice A' (n+m) c') w'/\OwT w' base et e X K A' (n+m) c'/\w.grownBy w' (Value.slice A n c).ownBlock ∧
   (∀ g,(Value.slice A' (n+m) c').ownBlock=some g->(Value.slice A n c).ownBlock=some g\/g=w):=by
 obtain ⟨xs,h1,h2⟩:=hown;have A0:z.cells.size=e.length:=by rw [hzc];simp
 obtain ⟨A',c',w',hr,g1,g2,g3⟩:=run_append_zeros_own (P:=P) w base t tn ty et i z e.length bytes kq kn ht htn hi hz hsize hby A0 hsz (fun u hu=>by
  rw [hzc] at hu
  simp only [List.mem_map] at hu
  obtain ⟨t,ht,rfl⟩:=hu
  exact (vt_zero (w:=w) (X:=X) K t (List.all_eq_true.1 hzk t ht)).one) A n c xs h1 m h63 hbytes hbase
 refine ⟨A',c',w',hr,own_append ⟨xs,h1,h2⟩ ⟨h1,h2⟩ (by rw [Array.length_toList,size_zeroCells,A0]) (fun k j s hk hj=>?_) hX g1 g2 g3,g2,g3⟩;have A1:=zero_at (z:=z.cells) (n:=m) (k:=k) (j:=j) (u:=s.zero) hk (by rw [hzc];simp [hj]);rw [A0] at A1;exact ⟨s.zero,A1,vt_zero K s (List.all_eq_true.1 hzk s (List.mem_of_getElem? hj))⟩
variable {w:World} {ops:Array Oper} {rest:List Oper} {o:Oper} {a:Act} {Q:Exit->Act->World->Prop}
theorem run_make_t (w:World) (base:Nat) (t et:TypeId) (i:TypeInfo) (z:Value) (bytes:Nat) (kl kc:IntKind) (e:List CT) (X:NP) (K:Nat) (ht:P.underlying t=some (.slice et)) (hi:P.info? et=some i) (hz:i.zero=some z)
  (hsize:i.size=e.length) (hby:i.bytes=bytes) (hzc:z.cells=(e.map CT.zero).toArray) (hzk:e.all CT.zok=true) (hsz:0<e.length) (m:Nat) (hX:∀ k,X k->k<w) (h63:m<=maxLen) (hbytes:bytes*m<=281474976710656) (hbase:base<=w) :
  ∃ w',(Instr.makeSlice t (.int kl (m:Int)) (.int kc (m:Int))).run P w=.ok (.slice (some (a_ w)) m m) w'/\OwT w' base et e X K (some (a_ w)) m m/\Below w w w':=by
 have A2:z.cells.size=e.length:=by rw [hzc];simp
 obtain ⟨w',hr,g1,g2⟩:=run_make_full (P:=P) w base t et i z e.length ht hi hz hsize kl kc m (by rw [hby];exact hbytes) h63 hbase;refine ⟨w',hr,⟨_,g1,fun k j s hk hj=>?_⟩,aj_ g2 (l_) (fun k hk=>by cases hk)⟩;have A0:j<e.length:=(e_ hj).1;refine ⟨s.zero,?_,vt_zero K s (List.all_eq_true.1 hzk s (List.mem_of_getElem? hj))⟩;have A1:k*e.length+j<m*e.length:=by
  exact v1_
 have hm:(k*e.length+j) % e.length=j:=by rw [Nat.mul_comm,Nat.mul_add_mod,Nat.mod_eq_of_lt A0]
 rw [Array.getElem?_toList];unfold madeCells;simp [A1,hzc,hm,hj]
end
end Go.Proofs.YtfolidlmgfhkiaaGreat
namespace Go.Proofs.YtfolidlmgfhkiaaGreat
open Go.RowKit Go.Proofs.Tryz
theorem broken_t (X:NP) (K:Nat) (vs:VL) (w:World) (ht:VTs w X K ae_ vs) (hX:∀ k,X k->k<w) :
  Calls prog 87 #[.agg vs.toArray] w fun e w'=>(∃ us,e=.returned (.agg us.toArray)/\VTs w' X K ae_ us/\Hid (us[42]?=some (i_ 4)))/\Below w w w':=by
 obtain ⟨Aj,A0⟩:=ht.num (j:=42) rfl;obtain ⟨A8,A1⟩:=ht.num (j:=47) rfl;have Ah:(prog.info? 65).map (·.size)=some vs.length:=by rw [ht.1];kernel_rfl
 obtain ⟨W,hW,A5,Af,B0,B1⟩:=cb_ w vs 65 zl1 65;have HT:=q_ (ht.kept (Y:=fun k=>X k\/(w<=k/\k<w+2)) (Kp.of_below A5) (fun k hk h1 h2=>by rcases h2 with h2 | h2;exact h1 h2;omega) (Nat.le_refl K));have HW:=q_ A5;have A9:=q_ B0;have Aa:=q_ B1;have Ag:=ht.1;have c42:=B0.2.1 42 _ A0;have Ai:=B0.2.1 47 _ A1;have c0:=B0.2.2;clear ht hX B0 B1 A5 Af A0 A1;go_enter func87,ntmps87;go_upto_region 1 with fail;rw [<-hW];clear hW;go_upto_region 3 with fail;obtain ⟨ls,A3⟩:=ex_ ((vs.set 42 (i_ 4)).set 47 (i_ (wrap64 (A8+1))));obtain ⟨U,hU⟩:=ex_ ((W.setCell (f_ w 42) (i_ 4)).setCell (f_ w 47) (i_ (wrap64 (A8+1))));have Ae:=h_ (Bx U w ls) (by rw [hU,A3];exact (A9.o.set 42 _).set 47 _);have A7:=h_ (Bx U (w+1) zl1) (by rw [hU];exact (Aa.o.far z1_ _).far z1_ _);have Ac:=h_ (Kp (fun k=>X k\/(w<=k/\k<w+2)) W U) (by rw [hU];exact ((Kp.refl _ W).setCell (p:=(f_ w 42)) (.inl (.inr ⟨zv_,by show (w:Nat)<w+2;omega⟩)) _).setCell (p:=(f_ w 47)) (.inl (.inr ⟨zv_,by show (w:Nat)<w+2;omega⟩)) _);have Ab:=h_ (Below w w U) (by rw [hU];exact (HW.o.setCell zv_ _).setCell zv_ _);have Ad:=h_ (ls[42]?=some (i_ 4)) (by rw [A3,gs_,if_neg d_,gs_,if_pos rfl,if_pos (by rw [Ag];decide)]);have A4:=h_ (VTs U (fun k=>X k\/(w<=k/\k<w+2)) K ae_ ls) (by rw [A3];exact ((HT.o.up Ac.o (Nat.le_refl K)).set (j:=42) rfl (.num _)).set (j:=47) rfl (.num _));rw [<-hU];have A6:(prog.info? 65).map (·.size)=some ls.length:=by rw [A3];simpa using Ah
 have A2:ls.length=48:=by rw [A4.o.1];rfl
 clear hU A3;go_wp2_with (first
  | (with_reducible refine ac_ rfl 65 (.tmp 1) rfl _ underlying65 rfl v_ Ae.o.whole A6 ?_)
  | (with_reducible refine ab_ rfl 65 (.tmp 2) (.tmp 8) rfl ls yw_ v_ (A7.o.there (by rw [A2];decide)) A6 A4.o.one ?_))
 refine retC results87 za_ underlying65 rfl A6 (cs:=ls) (A7.o.all ls (by rw [A2];rfl)).whole rfl ?_;exact ⟨⟨ls,rfl,(A4.o.up (ag_ (w+1) ls 0 (Kp.refl _ U) (.inl (.inr ⟨o_,o_⟩))) (Nat.le_refl K)).less (fun k _ h=>.inl h),Ad⟩,(ag_ (w+1) ls 0 (show Kp (fun _=>False) w U from .of_below Ab.o) (.inr o_)).below (l_) (fun _ _ h=>h)⟩
def RWr (e:Ending):Prop:=∃ (x:Cl) (b:Bool),e=.returned (.tuple #[.agg #[i_ x.id,i_ x.field,.bool x.ref,i_ x.n],.bool b])
theorem Wrong_t (X:NP) (K:Nat) (A:OA) (n c:Nat) (L:Nat) (B:OA) (m d:Nat) (w:World) (h:SlT w X K objT A n c) (hK:K<=4398046510976) (hl:SlT w X L ap_ B m d) (hL:L<=4398046510976) :
  Calls prog 180 #[.agg #[.slice A n c],.slice B m d] w fun e w'=>RWr e/\Below w w w':=by
 obtain ⟨W,hW,A2,A9,B0,B1⟩:=cb_ w [.slice A n c] 35 [i_ 0,i_ 0,.bool false,i_ 0] 87;have H:=q_ (h.up (Kp.of_below A2) (l_));have HC:=q_ (hl.up (Kp.of_below A2) (l_));have A8:=q_ B0;have A5:=q_ B1;have HW:=q_ A2;have hm:=hl.le;have Ae:(w:Nat)<W:=by omega
 clear h hl B0 B1 A2 A9;go_enter func180,ntmps180;go_upto_region 1 with fail;rw [<-hW];clear hW;go_upto_region 2 with fail;go_loopw [12] (fun i wr=>∃ k:Nat,k<=m/\i=i_ k/\Below W W wr) (fun i _=>m - (intOf i).toNat)
 case atStart=>exact ⟨0,o_,rfl,b_⟩
 obtain ⟨k,hk,rfl,hb⟩:=hrel;have Aa:=hb.size;have HB:=q_ hb;by_cases hlt:k<m
 ·have A4:(k:Int)<(m:Int):=by omega
  obtain ⟨g,o,rfl,hg,x,hx⟩:=HC.o.dr_ hlt;obtain ⟨c0,c1,c2,c3⟩:=hx wr hb;obtain ⟨V,hV,A7,Ac,V0⟩:=af_ wr [i_ x.id,i_ x.field,.bool x.ref,i_ x.n] 87;have HV:=q_ V0;have A1:=h_ (Below W W V) (hb.trans (A7.mono Aa));have a0:=(A8.o.below A1.o).2.1 0 _ rfl;have v0:=V0.2.1 0 _ rfl;have v1:=V0.2.1 1 _ rfl;clear hx hb A7 V0;go_upto_region 4 with fail;rw [<-hV];clear hV c0 c1 c2 c3;go_wp2_with fail;refine (Read_t X K A n c x.id x.field V (H.o.up (Kp.of_below A1.o) (l_)) o_).mono ?_;rintro e S ⟨⟨v,ok,rfl⟩,hS⟩;obtain ⟨T,hT,A6,Ab,T0⟩:=af_ S [.bool v.ref,i_ v.n] 38;have A0:=h_ (Below V V T) (hS.trans (A6.mono hS.size));have A3:=h_ (Below W W T) (A1.o.trans (A0.o.mono A1.o.size));have t0:=T0.2.1 0 _ rfl;have t1:=T0.2.1 1 _ rfl;have v0:=(HV.o.below A0.o).2.1 0 _ rfl;have v1:=(HV.o.below A0.o).2.1 1 _ rfl;have v2:=(HV.o.below A0.o).2.1 2 _ rfl;have v3:=(HV.o.below A0.o).2.1 3 _ rfl;have HR:=q_ (A5.o.below A3.o);have r0:=HR.o.2.1 0 _ rfl;have r1:=HR.o.2.1 1 _ rfl;have r2:=HR.o.2.1 2 _ rfl;have r3:=HR.o.2.1 3 _ rfl;have rf:=HR.o.2.2;have Ad:(w:Nat)+1<T:=HR.o.1;have HF:=h_ (Below w w T) (HW.o.trans (A3.o.mono HW.o.size));clear hS A6 T0 a0;go_upto_region 5 with fail;rw [<-hT];clear hT;obtain ⟨vr,vn⟩:=v;obtain ⟨xi,xf,xr,xn⟩:=x;go_wp2;all_goals first
   | (refine cc_ results180 za_ underlying87 rfl k_ (cs:=[_,_,_,_]) ((((HR.o.set 0 _).set 1 _).set 2 _).set 3 _).whole rfl ?_
      exact ⟨⟨⟨xi,xf,xr,xn⟩,true,rfl⟩,(bel HF.o)⟩)
   | (go_roundw
      case rel=>exact ⟨k+1,o_,zb_,A3.o⟩
      case measure=>exact me_)
 have A4:¬(k:Int)<(m:Int):=by omega
 have HR:=q_ (A5.o.below HB.o);have r0:=HR.o.2.1 0 _ rfl;have r1:=HR.o.2.1 1 _ rfl;have r2:=HR.o.2.1 2 _ rfl;have r3:=HR.o.2.1 3 _ rfl;have rf:=HR.o.2.2;have HF:=h_ (Below w w wr) (HW.o.trans (HB.o.mono HW.o.size));clear hb;go_wp2;refine cc_ results180 za_ underlying87 rfl k_ (cs:=[_,_,_,_]) ((((HR.o.set 0 _).set 1 _).set 2 _).set 3 _).whole rfl ?_;exact ⟨⟨⟨0,0,false,0⟩,false,rfl⟩,(bel HF.o)⟩
end Go.Proofs.YtfolidlmgfhkiaaGreat
namespace Go.Proofs.YtfolidlmgfhkiaaGreat
open Go.RowKit Go.MapKept
def cy_ (w:World) (b:Nat):Prop:=∃ es clock,w.heap[b]?=some (.map es clock)/\∀ x ∈ es.toList,IsKey (.int .i64) x.key/\∃ t:Bool,x.val=.bool t
theorem cy_.made (w:World):cy_ (w.alloc (.map #[] 0)) w:=⟨#[],0,(MapKept.heap_alloc w _).1,fun x hx=>by simp at hx⟩
theorem cy_.lt {w:World} {b:Nat} (h:cy_ w b):b<w:=by
 obtain ⟨es,A0,hb,_⟩:=h;rcases Nat.lt_or_ge b w with h | h
 ·exact h
 rw [Array.getElem?_eq_none h] at hb;cases hb
theorem cy_.below {w w':World} {b:Nat} (h:cy_ w b) (hb:Below w w w'):cy_ w' b:=by
 have A1:=h.lt;obtain ⟨es,A0,h1,h2⟩:=h;exact ⟨es,A0,(hb.block b A1).trans h1,h2⟩
theorem cy_.look {w:World} {b:Nat} (h:cy_ w b) (k:Int):∃ t:Bool,(Instr.lookup 235 (.map (some b)) (i_ k) false).run Tryz.prog w=.ok (.bool t) w:=by
 obtain ⟨es,A0,hb,A1⟩:=h;have hk:IsKey (.int .i64) (i_ k):=rfl;have hz:(zeroValue 4).run Tryz.prog w=.ok (.bool false) w:=by kernel_rfl
 rcases MapKept.findNow_spec hk es.toList 0 (fun x hx=>(A1 x hx).1) with ⟨h1,h2⟩ | ⟨j,e,h1,h2,h3⟩
 ·exact ⟨false,by simp [Instr.lookup,run_underlying Tryz.underlying235,MapKept.run_getObj_map hb,MapKept.run_checkKey Tryz.underlying2 hk,MapKept.run_findKey Tryz.underlying2 h1,hz,Result.andThen]⟩
 obtain ⟨t,ht⟩:=(A1 e (List.mem_of_getElem? h2)).2;exact ⟨t,by simp [Instr.lookup,run_underlying Tryz.underlying235,MapKept.run_getObj_map hb,MapKept.run_checkKey Tryz.underlying2 hk,MapKept.run_findKey Tryz.underlying2 h1,ht,Result.andThen]⟩
theorem cy_.put {w:World} {b:Nat} (h:cy_ w b) (k:Int) (v:Bool):∃ w',(Instr.mapUpdate 235 (.map (some b)) (i_ k) (.bool v)).run Tryz.prog w=.ok () w'/\cy_ w' b/\w.grownBy w' (some b):=by
 obtain ⟨es,A0,hb,A1⟩:=h;have hk:IsKey (.int .i64) (i_ k):=rfl;rcases MapKept.findNow_spec hk es.toList 0 (fun x hx=>(A1 x hx).1) with ⟨h1,h2⟩ | ⟨j,e,h1,h2,h3⟩
 ·refine ⟨{ w with heap:=w.heap.setIfInBounds b (.map (es.push { key:=i_ k,val:=.bool v,born:=A0 }) (A0+1)) },by simp [Instr.mapUpdate,run_underlying Tryz.underlying235,MapKept.run_getObj_map hb,MapKept.run_checkKey Tryz.underlying2 hk,MapKept.run_findKey Tryz.underlying2 h1,MapKept.run_setObj_map _ hb,Result.andThen],⟨_,_,(MapKept.heap_set hb).1,fun x hx=>?_⟩,⟨rfl,rfl,rfl,zj_,fun i _ hi=>(MapKept.heap_set hb).2 i (fun e=>hi xq_)⟩⟩;simp only [Array.toList_push,List.mem_append,List.mem_singleton] at hx;rcases hx with hx | rfl
  ·exact A1 x hx
  exact ⟨rfl,v,rfl⟩
 have hj:es[j]?=some e:=by simpa using h2
 refine ⟨{ w with heap:=w.heap.setIfInBounds b (.map (es.modify j fun e=>{ key:=i_ k,val:=.bool v,born:=e.born }) A0) },by simp [Instr.mapUpdate,run_underlying Tryz.underlying235,MapKept.run_getObj_map hb,MapKept.run_checkKey Tryz.underlying2 hk,MapKept.run_findKey Tryz.underlying2 h1,hj,h3,MapKept.run_keyThatStays hk,MapKept.run_setObj_map _ hb,Result.andThen],⟨_,_,(MapKept.heap_set hb).1,fun x hx=>?_⟩,⟨rfl,rfl,rfl,zj_,fun i _ hi=>(MapKept.heap_set hb).2 i (fun e=>hi xq_)⟩⟩;obtain ⟨i,hi⟩:=List.getElem?_of_mem hx;rw [Array.getElem?_toList,Array.getElem?_modify] at hi;by_cases hij:j=i
 ·subst hij;rw [if_pos rfl,hj] at hi;simp at hi;subst hi;exact ⟨rfl,v,rfl⟩
 rw [if_neg hij] at hi;exact A1 x (List.mem_of_getElem? (i:=i) (by rw [Array.getElem?_toList];exact hi))
end Go.Proofs.YtfolidlmgfhkiaaGreat
namespace Go.Proofs.YtfolidlmgfhkiaaGreat.Sq
open Go.RowKit Go.Proofs.Tryz
theorem tainted_any (x:Cl) (OAx:OA) (on oc:Nat) (out:List Int) (HA:OA) (hn hc:Nat) (ol:List Ob) (B:OA) (m d:Nat) (w0:World) (l:List (Tr w0)) (k:Nat) (p p2 p3 p4:Nat) (w:World) (hw0:Below w0 w0 w)
  (hh:Hp w w HA hn ol) (hhn:hn<=9000000000000) (hl:Sl w w 48 Tr.cells B m l) (hm:m<=900000) (hd:m<=d) (hk:k<m) (ho:Sl w w 1 intCells OAx on out) (hon:on<=1000000)
  (hp:w.cell? (a_ p)=some (.slice OAx on oc)) (hp2:w.cell? (a_ p2)=some (.slice HA hn hc)) (hp3:w.cell? (a_ p3)=some (.slice B m d)) (hp4:w.cell? (a_ p4)=some (i_ k)) (hlt:p<w/\p2<w/\p3<w/\p4<w) :
  Calls prog 48 #[.agg #[i_ x.id,i_ x.field,.bool x.ref,i_ x.n],.pointer (some (a_ p)),.pointer (some (a_ p2)),.pointer (some (a_ p3)),.pointer (some (a_ p4))] w
   fun e w'=>e=.returned (.bool (out.contains (srcP (fun i f=>cn_ i f (ol.map Ob.po)) (l.map (·.t)) k x.id x.field)))/\Below w w w':=by
 obtain ⟨W,hW,A3,Ab,B5⟩:=af_ w [i_ x.id,i_ x.field,.bool x.ref,i_ x.n] 87;obtain ⟨b5,A5⟩:=ex_ (w:Nat);rw [<-A5] at B5;have A4:=h_ (∀ w',Below W W w'->w'.cell? (a_ p)=some (.slice OAx on oc)/\w'.cell? (a_ p2)=some (.slice HA hn hc)/\w'.cell? (a_ p3)=some (.slice B m d)/\w'.cell? (a_ p4)=some (i_ k)/\w'.cell? (a_ b5)=some (i_ x.id)/\w'.cell? (f_ b5 1)=some (i_ x.field)/\w'.cell? (f_ b5 2)=some (.bool x.ref)/\w'.cell? (f_ b5 3)=some (i_ x.n)) (fun w' hb=>by
  have h:=A3.trans (hb.mono A3.size)
  have h5:=B5.below hb
  exact ⟨(belc h hlt.1).trans hp,(belc h hlt.2.1).trans hp2,(belc h hlt.2.2.1).trans hp3,(belc h hlt.2.2.2).trans hp4,h5.2.1 0 _ rfl,h5.2.1 1 _ rfl,h5.2.1 2 _ rfl,h5.2.1 3 _ rfl⟩)
 have A0:=q_ A3;have HH:=q_ hh;have Aa:=q_ hhn;have HL:=q_ hl;have HO:=q_ ho;have A6:=q_ hw0;have A1:=h_ (Below W W W.drew) (Below.drew (b_));clear hp hp2 hp3 hp4 hlt hh hhn hl ho hw0 A3 Ab B5;go_enter func48,ntmps48;go_upto_region 1 with fail;rw [<-hW,<-A5];clear hW A5;refine aq_ (S:=fun w':World=>w'.cell? (a_ p)=some (.slice OAx on oc)/\w'.cell? (a_ p2)=some (.slice HA hn hc)/\w'.cell? (a_ p3)=some (.slice B m d)/\w'.cell? (a_ p4)=some (i_ k)/\w'.cell? (a_ b5)=some (i_ x.id)/\w'.cell? (f_ b5 1)=some (i_ x.field)/\w'.cell? (f_ b5 2)=some (.bool x.ref)/\w'.cell? (f_ b5 3)=some (i_ x.n)) rfl (A4.o _ A1.o) (fun _=>?_);go_simp;refine aa_ 0 7 ?_;refine aa_ 1 8 ?_;refine aa_ 2 9 ?_;refine aa_ 3 10 ?_;refine aa_ 4 11 ?_;refine ba_ 5 k_ rfl (fun K hK=>?_);go_simp;go_at_call 50;refine (source_any HA hn hc ol B m d w0 l k x.id x.field x.ref x.n W.drew (A6.o.trans ((A0.o.trans (A1.o.mono A0.o.size)).mono A6.o.size)) (HH.o.up (A0.o.trans (A1.o.mono A0.o.size))) Aa.o (HL.o.up (A0.o.trans (A1.o.mono A0.o.size))) hm hd hk).mono ?_;rintro e z1 ⟨rfl,A8⟩;have A2:=q_ (A1.o.trans A8);clear A8;refine hK.out _ _ (A4.o _ A2.o) (fun _=>?_);refine bc_ 6 fun K hK=>?_
 go_simp;go_at_call 49;refine (contains_any OAx on oc out _ z1 (HO.o.up (A0.o.trans (A2.o.mono A0.o.size))) hon).mono ?_;rintro e z2 ⟨rfl,A9⟩;have A7:=q_ (A2.o.trans (A9.mono A2.o.size));clear A9;refine hK.out _ _ (A4.o _ A7.o) (fun _=>?_);refine aa_ 7 6 ?_;refine wpAnyH_done k_ ?_ _;go_wp2_with fail;go_ret;exact ⟨congrArg (fun b=>Ending.returned (.bool b)) (dec_mem _ _),A0.o.trans (A7.o.mono A0.o.size)⟩
end Go.Proofs.YtfolidlmgfhkiaaGreat.Sq
namespace Go.Proofs.YtfolidlmgfhkiaaGreat
open Go.RowKit Go.Proofs.Tryz
theorem Reads21_t (X:NP) (K:Nat) (A:OA) (n c:Nat) (L:Nat) (vs:VL) (w:World) (h:SlT w X K objT A n c) (hK:K<=4398046510976) (ht:VTs w X L ae_ vs) (hL:L<=4398046510976) :
  Calls prog 132 #[.agg #[.slice A n c],.agg vs.toArray] w fun e w'=>RWr e/\Below w w w':=by
 obtain ⟨W,hW,A1,A6,B0,B1,B2⟩:=ei_ w [.slice A n c] 35 vs 65 [i_ 0,i_ 0,.bool false,i_ 0] 87;obtain ⟨RA,rn,rc,A3,hr⟩:=ht.slc (j:=37) (e:=ap_) rfl;have H:=q_ (h.up (Kp.of_below A1) (l_));have HR:=q_ (hr.up (Kp.of_below A1) (l_));have A5:=q_ B2;have HW:=q_ A1;have a0:=B0.2.1 0 _ rfl;have A7:=B1.2.1 37 _ A3;have A9:(w:Nat)+2<W:=by omega
 clear h ht hr B0 B1 B2 A1 A6 A3;go_enter func132,ntmps132;go_upto_region 1 with fail;rw [<-hW];clear hW;go_wp2_with fail;refine (Wrong_t X K A n c L RA rn rc W H.o hK HR.o hL).mono ?_;rintro e S ⟨⟨x,b,rfl⟩,hS⟩;obtain ⟨xi,xf,xr,xn⟩:=x;obtain ⟨T,hT,A4,A8,T0⟩:=af_ S [i_ xi,i_ xf,.bool xr,i_ xn] 87;have A2:=h_ (Below W W T) (hS.trans (A4.mono hS.size));have t0:=T0.2.1 0 _ rfl;have t1:=T0.2.1 1 _ rfl;have t2:=T0.2.1 2 _ rfl;have t3:=T0.2.1 3 _ rfl;have A0:=q_ (A5.o.below A2.o);have r0:=A0.o.2.1 0 _ rfl;have r1:=A0.o.2.1 1 _ rfl;have r2:=A0.o.2.1 2 _ rfl;have r3:=A0.o.2.1 3 _ rfl;have rf:=A0.o.2.2;have HF:=h_ (Below w w T) (HW.o.trans (A2.o.mono HW.o.size));clear hS A4 T0 a0 A7;go_upto_region 2 with fail;rw [<-hT];clear hT;go_wp2;refine cc_ results132 za_ underlying87 rfl k_ (cs:=[_,_,_,_]) ((((A0.o.set 0 _).set 1 _).set 2 _).set 3 _).whole rfl ?_;exact ⟨⟨⟨xi,xf,xr,xn⟩,!b,rfl⟩,(bel HF.o)⟩
end Go.Proofs.YtfolidlmgfhkiaaGreat
namespace Go.Proofs.YtfolidlmgfhkiaaGreat
open Go.RowKit
def OwP (w:World) (base:Nat) (et:TypeId) (p:VL->Prop) (e:List CT) (X:NP) (K:Nat) (A:OA) (n c:Nat):Prop :=
 ∃ xs,w.ownsRow base et e.length (.slice A n c) n xs/\∀ k,k<n->∃ vs,VTs w (Wi X (Value.slice A n c).ownBlock) K e vs/\(∀ j u,vs[j]?=some u->xs[k*e.length+j]?=some u)/\p vs
section
variable {X Y:NP} {w w':World} {K K' base n m c d:Nat} {et:TypeId} {p:VL->Prop} {e:List CT} {A B:OA}
theorem OwP.nil (w:World) (base:Nat) (et:TypeId) (p:VL->Prop) (e:List CT) (X:NP) (K:Nat):OwP w base et p e X K none 0 0:=⟨[],World.ownsRow_nil _ _ _ _,fun k h=>absurd h o_⟩
theorem OwP.slP (h:OwP w base et p e X K A n c) (hb:∀ k,X k->k<base) (hn:n<=K):SlP w X K p e A n c:=by
 obtain ⟨xs,ho,hx⟩:=h;exact SlP.da_ ho hb hn (fun k hk=>by obtain ⟨vs,h1,h2,h3⟩:=hx k hk;exact ⟨vs,h1.less (fun k _ h=>.inl h),h2,h3⟩)
theorem OwP.mono {base':Nat} (h:OwP w base et p e X K A n c) (hb:base'<=base):OwP w base' et p e X K A n c:=by
 obtain ⟨xs,ho,hx⟩:=h;exact ⟨xs,own_mono ho hb,hx⟩
theorem own_kp {base sz:Nat} {v:Value} {xs:VL} (ho:w.ownsRow base et sz v n xs) (hk:Kp X w w') (hb:∀ g,v.ownBlock=some g->¬X g):w'.ownsRow base et sz v n xs:=by
 refine ⟨ho.1,?_⟩;rcases ho.2 with h | ⟨g,cap,cur,hv,hg,hr,hr2⟩
 ·exact .inl h
 subst hv;have A0:g<w:=by
  rcases Nat.lt_or_ge g w with h | h
  ·exact h
  rw [Array.getElem?_eq_none h] at hr;cases hr
 exact .inr ⟨g,cap,cur,rfl,hg,(hk.block g A0 (hb g rfl)).trans hr,hr2⟩
theorem OwP.kept (h:OwP w base et p e X K A n c) (hk:Kp X w w') (hb:∀ k,X k->k<base):OwP w' base et p e X K A n c:=by
 obtain ⟨xs,ho,hx⟩:=h;have hne:∀ g,(Value.slice A n c).ownBlock=some g->¬X g:=fun g hg A1=>by have:=(am_ ho hg).1;have:=hb g A1;omega
 refine ⟨xs,own_kp ho hk hne,fun k A0=>?_⟩;obtain ⟨vs,h1,h2,h3⟩:=hx k A0;exact ⟨vs,h1.kept (hk.mono (fun k _ h=>.inl h)) (fun _ _ h=>h) (l_),h2,h3⟩
theorem OwP.below (h:OwP w base et p e X K A n c) (hb:Below w w w'):OwP w' base et p e X K A n c:=by
 obtain ⟨xs,ho,hx⟩:=h;refine ⟨xs,own_below ho hb,fun k A0=>?_⟩;obtain ⟨vs,h1,h2,h3⟩:=hx k A0;exact ⟨vs,h1.kept (Kp.of_below hb) (fun _ _ h=>h) (l_),h2,h3⟩
theorem SlP.news (h:SlP w X K p e A n c):∃ news:VL,news.length=n*e.length/\(A=none->n=0)/\(∀ ad,A=some ad->∀ (j:Nat) (u:Value),news[j]?=some u->w.cell? (ad.add j)=some u)/\(∀ u ∈ news,u.oneCell'=true) ∧
  ∀ k,k<n->∃ vs,VTs w X K e vs/\(∀ j u,vs[j]?=some u->news[k*e.length+j]?=some u)/\p vs:=by
 obtain ⟨news,n1,n2,n3,n4,n5⟩:=h.sl.news;refine ⟨news,n1,n2,n3,n4,fun k hk=>?_⟩;obtain ⟨g,o,vs,rfl,h1,h2,h3⟩:=h.ok k hk;refine ⟨vs,h1,fun j u hu=>?_,h3⟩;have hj:j<e.length:=by rw [<-h1.1];exact (e_ hu).1
 obtain ⟨v,hv,_⟩:=n5 k j _ hk (ge_ hj);have h4:=n3 _ rfl _ v hv;rw [Addr.add_lit] at h4;rw [h2 j u hu] at h4;injection h4 with h4;rw [hv,h4]
theorem own_appendP {xs news:VL} {A':OA} {c':Nat} (hxs:w.ownsRow base et e.length (.slice A n c) n xs/\∀ k,k<n->∃ vs,VTs w (Wi X (Value.slice A n c).ownBlock) K e vs/\(∀ j u,vs[j]?=some u->xs[k*e.length+j]?=some u)/\p vs)
  (_hl:news.length=m*e.length) (hn:∀ k,k<m->∃ vs,VTs w (Wi X (Value.slice A n c).ownBlock) K e vs/\(∀ j u,vs[j]?=some u->news[k*e.length+j]?=some u)/\p vs)
  (hX:∀ k,X k->k<w) (ho:w'.ownsRow base et e.length (.slice A' (n+m) c') (n+m) (xs ++ news)) (hg:w.grownBy w' (Value.slice A n c).ownBlock) (hloc:∀ g,(Value.slice A' (n+m) c').ownBlock=some g->(Value.slice A n c).ownBlock=some g\/g=w) :
  OwP w' base et p e X K A' (n+m) c':=by
 have A0:xs.length=n*e.length:=hxs.1.1;have up:∀ {ts:List CT} {us:VL},VTs w (Wi X (Value.slice A n c).ownBlock) K ts us->VTs w' (Wi X (Value.slice A' (n+m) c').ownBlock) K ts us:=fun hv =>
  hv.kept ((Kp.refl _ w).grown hg (fun k hk=>.inl (.inr hk))) (fun k hk A1 hin=>by
   rcases hin with hin | hin
   ·exact A1 (.inl hin)
   rcases hloc k hin with h1 | h1
   ·exact A1 (.inr h1)
   omega) (l_)
 refine ⟨xs ++ news,ho,fun k hk=>?_⟩;by_cases hkn:k<n
 ·obtain ⟨vs,h1,h2,h3⟩:=hxs.2 k hkn;exact ⟨vs,up h1,fun j u hu=>by rw [List.getElem?_append_left (e_ (h2 j u hu)).1];exact h2 j u hu,h3⟩
 obtain ⟨vs,h1,h2,h3⟩:=hn (k - n) o_;refine ⟨vs,up h1,fun j u hu=>?_,h3⟩;have e1:k*e.length=n*e.length+(k - n)*e.length:=by rw [<-Nat.add_mul];congr 1;omega
 rw [List.getElem?_append_right yi_,A0,show k*e.length+j - n*e.length=(k - n)*e.length+j from by omega];exact h2 j u hu
theorem SlP.of_box {b:Nat} {cs:VL} (hB:Bx w b cs) (hX:¬X b) (hn:n<=K) (hm:n<=9223372036854775807) (h:∀ k,k<n->∃ vs,VTs w X K e vs/\(∀ j u,vs[j]?=some u->cs[k*e.length+j]?=some u)/\p vs):SlP w X K p e (some (a_ b)) n n:=by
 have A0:∀ k,k<n->∃ g o vs,(some (a_ b):OA)=some (f_ g o)/\VTs w X K e vs/\(∀ j u,vs[j]?=some u->w.cell? ⟨g,o+(k*e.length+j),none⟩=some u)/\p vs:=fun k hk=>by
  obtain ⟨vs,h1,h2,h3⟩:=h k hk;exact ⟨b,0,vs,rfl,h1,fun j u hu=>by rw [Nat.zero_add];exact hB.2.1 _ u (h2 j u hu),h3⟩
 refine ⟨⟨hn,l_,hm,x_,fun ad hA=>?_⟩,A0⟩;injection hA with hA;subst hA;obtain ⟨l,hl,hR⟩:=list_choose (n:=n) (R:=fun k vs=>VTs w X K e vs/\(∀ j u,vs[j]?=some u->cs[k*e.length+j]?=some u)) (fun k hk=>by obtain ⟨vs,h1,h2,h3⟩:=h k hk;exact ⟨vs,h1,h2⟩);refine ⟨b,0,rfl,hB.1,hX,fun k j=>((l[k]?).getD [])[j]?.getD undef,fun k j t hk hj=>?_,fun k j t hk hj=>?_⟩
 ·obtain ⟨h1,h2⟩:=hR k _ (ge_ (by omega:k<l.length));obtain ⟨u,hu,_⟩:=h1.2 j t hj;dsimp only
  rw [ge_ (by omega:k<l.length),Option.getD_some,hu,Nat.zero_add];exact hB.2.1 _ u (h2 j u hu)
 obtain ⟨h1,h2⟩:=hR k _ (ge_ (by omega:k<l.length));obtain ⟨u,hu,hv⟩:=h1.2 j t hj;dsimp only
 rw [ge_ (by omega:k<l.length),Option.getD_some,hu];exact hv
theorem SlP.one {b:Nat} {cs:VL} (hB:Bx w b cs) (hX:¬X b) (hn:1<=K) (h1:VTs w X K e cs) (h2:p cs):SlP w X K p e (some (a_ b)) 1 1 :=
 SlP.of_box hB hX hn o_ (fun k hk=>by
  obtain rfl:k=0:=by omega
  exact ⟨cs,h1,fun j u hu=>by rw [Nat.zero_mul,Nat.zero_add];exact hu,h2⟩)
theorem SlP.two {b:Nat} {us vs:VL} (hB:Bx w b (us ++ vs)) (hX:¬X b) (hn:2<=K) (h1:VTs w X K e us) (h2:p us) (h3:VTs w X K e vs) (h4:p vs):SlP w X K p e (some (a_ b)) 2 2 :=
 SlP.of_box hB hX hn o_ (fun k hk=>by
  by_cases h0:k=0
  ·subst h0
   exact ⟨us,h1,fun j u hu=>by rw [Nat.zero_mul,Nat.zero_add,List.getElem?_append_left (e_ hu).1];exact hu,h2⟩
  obtain rfl:k=1:=by omega
  exact ⟨vs,h3,fun j u hu=>by rw [Nat.one_mul,List.getElem?_append_right (by rw [h1.1];omega),h1.1,Nat.add_sub_cancel_left];exact hu,h4⟩)
theorem SlP.less (h:SlP w X K p e A n c) (hXY:∀ k,k<w.heap.size->Y k->X k):SlP w Y K p e A n c:=by
 obtain ⟨A',n',c',e',h'⟩:=(h.vt.less hXY).dh_;exact v0_
theorem SlP.kept (h:SlP w X K p e A n c) (hk:Kp X w w') (hXY:∀ k,k<w.heap.size->¬X k->¬Y k) (hK:K<=K'):SlP w' Y K' p e A n c:=by
 obtain ⟨A',n',c',e',h'⟩:=(h.vt.kept hk hXY hK).dh_;exact v0_
end
section
variable {P:Program} {w:World} {ops:Array Oper} {rest:List Oper} {o:Oper} {a:Act} {Q:Exit->Act->World->Prop} {t et:TypeId} {bytes:Nat} {p:VL->Prop} {e:List CT} {X:NP} {K base n c m d:Nat} {A B:OA}
theorem do_ (hgd:o.guard=none) (s x:Operand) (ho:o.op=.call { callee:=.builtin .append,args:=#[s,x],argTypes:=#[t,t] }) (E:EI P t et e bytes)
  (hs:a.eval s=.slice A n c) (hown:OwP w base et p e X K A n c) (hx:a.eval x=.slice B m d) (hsrc:SlP w (Wi X (Value.slice A n c).ownBlock) K p e B m d)
  (hX:∀ k,X k->k<w) (h63:n+m<=maxLen) (hbytes:(n+m)*bytes<=140737488355328) (hbase:base<=w)
  (h:∀ A' c' w',OwP w' base et p e X K A' (n+m) c'->w.grownBy w' (Value.slice A n c).ownBlock->(∀ g,(Value.slice A' (n+m) c').ownBlock=some g->(Value.slice A n c).ownBlock=some g\/g=w)->wpList P ops Q rest (a.put o.dst (.slice A' (n+m) c')) w'):wpList P ops Q (o :: rest) a w:=by
 obtain ⟨i,z,hi,hz,A0,A1,A2⟩:=E.hi;obtain ⟨xs,h1,h2⟩:=hown;obtain ⟨news,n1,n2,n3,n4,n5⟩:=hsrc.news;exact bt_ hgd s x t ho base et i z e.length bytes E.ht hi hz A0 A1 A2 E.hsz _ n xs hs h1 B m d news hx n2 n1 n3 n4 h63 hbytes hbase (fun A' c' w' g1 g2 g3=>h A' c' w' (own_appendP ⟨h1,h2⟩ n1 n5 hX g1 g2 g3) g2 g3)
end
end Go.Proofs.YtfolidlmgfhkiaaGreat
namespace Go.Proofs.YtfolidlmgfhkiaaGreat
open Go.RowKit Go.Proofs.Tryz
def isStr:Value->Bool
 | .string _=>true
 | _=>false
theorem strs_at {cs:Array Value} (h:cs.toList.all isStr=true) (k:Nat) (hk:k<cs.size):∃ s,cs[k]?=some (.string s):=by
 have hm:cs[k] ∈ cs.toList:=by simp
 have:=List.all_eq_true.1 h _ hm;rw [Array.getElem?_eq_getElem hk];cases hv:cs[k] <;> rw [hv] at this <;> first | exact ⟨_,rfl⟩ | cases this
theorem reserved_any (s:ByteArray) (w:World):Calls prog 201 #[.string s] w fun e w'=>RB e/\Below w w w':=by
 go_enter func201,ntmps201;go_upto_region 2 with fail;go_loopw [9] (fun i wr=>∃ k:Nat,k<=19/\i=i_ k/\Hid (Below w w wr)/\(w:Nat)<wr/\Hid (∀ k:Nat,k<19->∃ s,wr.cell? (f_ w k)=some (.string s))) (fun i _=>19 - (intOf i).toNat)
 case atStart=>exact ⟨0,o_,rfl,q_ (bel (b_)),zj_,q_ (fun k hk=>by rw [ar_ _ _ _ _ _ rfl];exact strs_at rfl k hk)⟩
 obtain ⟨k,hk,rfl,HB,hz,HC⟩:=hrel;by_cases hlt:k<19
 ·have A0:(k:Int)<19:=by omega
  obtain ⟨t,ht⟩:=HC.o k hlt;go_wp2;all_goals first
   | (go_ret;exact ⟨⟨_,rfl⟩,HB.o⟩)
   | (go_roundw
      case rel=>exact ⟨k+1,o_,zb_,HB,hz,HC⟩
      case measure=>exact me_)
 have A0:¬(k:Int)<19:=by omega
 go_wp2_with (go_at_call 207;refine (Op_any _ _).mono ?_;rintro e w1 ⟨⟨q,b,rfl⟩,hb⟩;have A1:=q_ (HB.o.trans (hb.mono HB.o.size)));go_ret;exact ⟨⟨_,rfl⟩,A1.o⟩
theorem Has_any (A:OA) (n c:Nat) (s:ByteArray) (X:NP) (K:Nat) (w:World) (h:SlT w X K [.txt] A n c) (hK:K<=900000000):Calls prog 161 #[.slice A n c,.string s] w fun e w'=>RB e/\Below w w w':=by
 have hn:=h.le;have H:=q_ h;clear h;go_enter func161,ntmps161;go_upto_region 2 with fail;go_loopw [9] (fun i wr=>∃ k:Nat,k<=n/\i=i_ k/\Hid (wr=w)) (fun i _=>n - (intOf i).toNat)
 case atStart=>exact ⟨0,o_,rfl,q_ rfl⟩
 obtain ⟨k,hk,rfl,A1⟩:=hrel;have hw:=A1.o.symm;subst hw;clear A1;by_cases hlt:k<n
 ·have A0:(k:Int)<(n:Int):=by omega
  obtain ⟨g,o,rfl,hg,hX,vs,hv,hm⟩:=H.o.mt hlt;obtain ⟨u,hu,ht⟩:=hv.2 0 .txt rfl;obtain ⟨t,rfl⟩:=ht.str;have c0:w.cell? ⟨g,o+k,none⟩=some (.string t):=by have:=hm 0 _ hu;simpa using this
  clear hv hm hu ht;go_wp2;all_goals first
   | (go_ret;exact ⟨⟨_,rfl⟩,(bel (b_))⟩)
   | (go_roundw
      case rel=>exact ⟨k+1,o_,zb_,q_ ww_⟩
      case measure=>exact me_)
 have A0:¬(k:Int)<(n:Int):=by omega
 exact to_
theorem Name05_any (s:ByteArray) (w:World) (hsz:s.size<=100):Calls prog 186 #[.string s] w fun e w'=>RB e/\Below w w w':=by
 go_enter func186,ntmps186;go_upto_region 2 with fail;go_loopw [3] (fun i wr=>∃ k:Nat,k<=s.size/\i=i_ k/\Hid (wr=w)) (fun i _=>s.size - (intOf i).toNat)
 case atStart=>exact ⟨0,o_,rfl,q_ rfl⟩
 obtain ⟨k,hk,rfl,A1⟩:=hrel;have hw:=A1.o.symm;subst hw;clear A1;by_cases hlt:k<s.size
 ·have A0:(k:Int)<(s.size:Int):=by omega
  go_wp2;all_goals first
   | (go_ret;exact ⟨⟨_,rfl⟩,(bel (b_))⟩)
   | (go_roundw
      case rel=>exact ⟨k+1,o_,zb_,q_ ww_⟩
      case measure=>exact me_)
 have A0:¬(k:Int)<(s.size:Int):=by omega
 go_wp2_with (go_at_call 201;refine (reserved_any _ _).mono ?_;rintro e w1 ⟨⟨b,rfl⟩,hb⟩;have A2:=q_ hb);all_goals
  go_ret;first | exact ⟨⟨_,rfl⟩,A2.o⟩ | exact ⟨⟨_,rfl⟩,(bel (b_))⟩
theorem results_tmp8 {P:Program} {fn:Func} {t1 t2 t3 t4 t5 t6 t7 t8:Tmp} (h:fn.results=#[.tmp t1,.tmp t2,.tmp t3,.tmp t4,.tmp t5,.tmp t6,.tmp t7,.tmp t8]) (tmps:Array Value) (w:World) :
  (results fn tmps).run P w=.ok (.tuple #[tmps.getD t1 undef,tmps.getD t2 undef,tmps.getD t3 undef,tmps.getD t4 undef,tmps.getD t5 undef,tmps.getD t6 undef,tmps.getD t7 undef,tmps.getD t8 undef]) w:=by
 simp [results,h]
def RPt (e:Ending):Prop:=∃ (m:Int) (a b c d f g k:Bool),e=.returned (.tuple #[i_ m,.bool a,.bool b,.bool c,.bool d,.bool f,.bool g,.bool k])
theorem parts_any (kd:Int) (w:World):Calls prog 203 #[i_ kd] w fun e w'=>RPt e/\Below w w w':=by
 go_enter func203,ntmps203;go_wp2;all_goals
  try simp only [Exit.inBlock,Exit.then]
  refine bodyPost_ret (results_tmp8 za_ _ _) rfl ?_;exact ⟨⟨_,_,_,_,_,_,_,_,rfl⟩,(bel (b_))⟩
theorem Names_any (kd:Int) (w:World):Calls prog 189 #[i_ kd] w fun e w'=>RB e/\Below w w w':=by
 go_enter func189,ntmps189;go_wp2_with (go_at_call 203;refine (parts_any _ _).mono ?_;rintro e w1 ⟨⟨m,a,b,c,d,f,g,k,rfl⟩,hb⟩;have A0:=q_ hb);go_ret;exact ⟨⟨_,rfl⟩,A0.o⟩
end Go.Proofs.YtfolidlmgfhkiaaGreat
namespace Go.Proofs.YtfolidlmgfhkiaaGreat.Sq
open Go.RowKit Go.Proofs.Tryz
structure Rt (w:World) (t:Tk):Prop where
 rq:Rq w t
 g:∃ (GA:OA) (gn gc:Nat) (gs:List Cl),t.cells[36]?=some (.slice GA gn gc)/\Sl w w 4 Cl.cells GA gn gs/\gn<=1000000
 a:∃ (AA:OA) (an ac:Nat) (la:List Ac),t.cells[41]?=some (.slice AA an ac)/\Sl w w 3 Ac.cells AA an la/\an<=1000000
 obs:∀ o ∈ t.ns,Sl w w 2 Val.cells o.A o.n o.s/\o.n<=1000000
theorem Rt.up {w w':World} {t:Tk} (h:Rt w t) (hb:Below w w w'):Rt w' t:=by
 obtain ⟨h1,⟨GA,gn,gc,gs,g1,g2,g3⟩,⟨AA,an,ac,la,a1,a2,a3⟩,h4⟩:=h;exact ⟨h1.up hb,⟨GA,gn,gc,gs,g1,g2.up hb,g3⟩,⟨AA,an,ac,la,a1,a2.up hb,a3⟩,fun o ho=>⟨(h4 o ho).1.up hb,(h4 o ho).2⟩⟩
theorem all_set {cs:VL} {j:Nat} {v:Value} (h:cs.all (·.oneCell')=true) (hv:v.oneCell'=true):(cs.set j v).all (·.oneCell')=true:=by
 rw [List.all_eq_true] at h ⊢;intro u hu;rcases List.mem_or_eq_of_mem_set hu with h1 | rfl
 ·exact h u h1
 exact hv
theorem dupTask_any (t:Tk) (w:World) (h:Rt w t):Calls prog 52 #[.agg t.cells.toArray] w (GivesK w):=by
 obtain ⟨h1,⟨GA,gn,gc,gs,AH,hg,Bb⟩,⟨AA,an,ac,la,AY,ha,Ba⟩,Av⟩:=h;obtain ⟨W,hW,Ad,B9,B1,B2⟩:=cb_ w t.cells 65 zl1 65;obtain ⟨b1,AF⟩:=ex_ w.heap.size;obtain ⟨b2,AG⟩:=ex_ (w.heap.size+1);rw [<-AF] at B1;rw [<-AG] at B2;have hne:b1≠b2:=by omega
 have A5:w<=b1/\w<=b2:=by omega
 have AQ:=q_ Ad;have An:=q_ B1;have AZ:=q_ B2;have Ax:=q_ AH;have Af:=q_ AY;have A4:=q_ (h1.up Ad);have HG:=q_ (hg.up Ad);have HA:=q_ (ha.up Ad);have A7:=q_ h1;have Aw:=q_ ha;have Ae:=q_ Av;have Bc:=q_ (fun o (ho:o ∈ t.ns)=>(show Sl W W 2 Val.cells o.A o.n o.s/\o.n<=1000000 from ⟨(Av o ho).1.up Ad,(Av o ho).2⟩));have A6:=h_ (Below W W W.drew) (Below.drew (b_));have Aq:=h_ (∀ w',Below W W w'->w'.cell? (f_ b1 36)=some (.slice GA gn gc)/\w'.cell? (f_ b1 37)=some (.slice t.RA t.rn t.rc)/\w'.cell? (f_ b1 38)=some (.slice t.WA t.wn t.wc)) (fun w' hb=>⟨(An.o.below hb).2.1 36 _ AH,(An.o.below hb).2.1 37 _ t.c37,(An.o.below hb).2.1 38 _ t.c38⟩);go_enter func52,ntmps52;go_upto_region 1 with fail;rw [<-hW,<-AG,<-AF];clear hW AF AG Ad B9 B1 B2 AH AY h1 hg ha Av;refine regionB (st:=10) (S:=fun w':World=>w'.cell? (f_ b1 36)=some (.slice GA gn gc)/\w'.cell? (f_ b1 37)=some (.slice t.RA t.rn t.rc)/\w'.cell? (f_ b1 38)=some (.slice t.WA t.wn t.wc)) rfl (Aq.o _ A6.o) (fun hHeld=>?_);go_simp;refine takeB 0 (some 3) ?_ rfl za_ k_ k_ k_ k_ d_ k_ (fun _ _ _ h=>h) (Or.inl ⟨za_,?_⟩) yd_ ?_;rotate_left
 ·intro w' A0;try dsimp only at A0
  go_simp;first | done | with_reducible rfl
 try simp only [Act.put,sA,s0,s1]
 refine takeB 1 (some 4) ?_ rfl za_ k_ k_ k_ k_ d_ k_ (fun _ _ _ h=>h) (Or.inl ⟨za_,?_⟩) yd_ ?_;rotate_left
 ·intro w' A0;try dsimp only at A0
  go_simp;first | done | with_reducible rfl
 try simp only [Act.put,sA,s0,s1]
 refine takeB 3 (some 6) ?_ rfl za_ k_ k_ k_ k_ d_ k_ (fun _ _ _ h=>h) (Or.inl ⟨za_,?_⟩) yd_ ?_;rotate_left
 ·intro w' A0;try dsimp only at A0
  go_simp;first | done | with_reducible rfl
 try simp only [Act.put,sA,s0,s1]
 refine takeB 4 (some 7) ?_ rfl za_ k_ k_ k_ k_ d_ k_ (fun _ _ _ h=>h) (Or.inl ⟨za_,?_⟩) yd_ ?_;rotate_left
 ·intro w' A0;try dsimp only at A0
  go_simp;first | done | with_reducible rfl
 try simp only [Act.put,sA,s0,s1]
 refine takeB 6 (some 9) ?_ rfl za_ k_ k_ k_ k_ d_ k_ (fun _ _ _ h=>h) (Or.inl ⟨za_,?_⟩) yd_ ?_;rotate_left
 ·intro w' A0;try dsimp only at A0
  go_simp;first | done | with_reducible rfl
 try simp only [Act.put,sA,s0,s1]
 refine takeB 7 (some 10) ?_ rfl za_ k_ k_ k_ k_ d_ k_ (fun _ _ _ h=>h) (Or.inl ⟨za_,?_⟩) yd_ ?_;rotate_left
 ·intro w' A0;try dsimp only at A0
  go_simp;first | done | with_reducible rfl
 try simp only [Act.put,sA,s0,s1]
 refine nextB 2 k_ rfl (fun K hK=>?_);go_simp;go_at_call 95;refine (SqCloC.any GA gn gc (gs.flatMap Cl.cells) W.drew ((HG.o.up A6.o).src Cl.size).1 ((HG.o.up A6.o).src Cl.size).2 (by rw [cj_ Cl.size,(HG.o.up A6.o).len]) (by have:=Bb;omega) (cl_one gs)).mono ?_;rintro e y1 ⟨AI,AR,rfl,A1,A2⟩;have Aa:=q_ (A6.o.trans (A2.mono A6.o.size));clear A1 A2;refine hK.out _ _ (Aq.o _ Aa.o) (fun hHeld=>?_);try simp only [Act.put,sA,s0,s1]
 refine takeB 9 (some 12) ?_ rfl za_ k_ k_ k_ k_ d_ k_ (fun _ _ _ h=>h) (Or.inl ⟨za_,?_⟩) yd_ ?_;rotate_left
 ·intro w' A0;try dsimp only at A0
  go_simp;first | done | with_reducible rfl
 try simp only [Act.put,sA,s0,s1]
 refine nextB 5 k_ rfl (fun K hK=>?_);go_simp;go_at_call 95;refine (SqCloC.any t.RA t.rn t.rc (t.rs.flatMap Cl.cells) y1 ((A4.o.rs.up Aa.o).src Cl.size).1 ((A4.o.rs.up Aa.o).src Cl.size).2 (by rw [cj_ Cl.size,(A4.o.rs.up Aa.o).len]) (by have:=A4.o.rn;omega) (cl_one t.rs)).mono ?_;rintro e y2 ⟨AJ,AS,rfl,A1,A2⟩;have Ab:=q_ (Aa.o.trans (A2.mono Aa.o.size));clear A1 A2;refine hK.out _ _ (Aq.o _ Ab.o) (fun hHeld=>?_);try simp only [Act.put,sA,s0,s1]
 refine nextB 8 k_ rfl (fun K hK=>?_);go_simp;go_at_call 95;refine (SqCloC.any t.WA t.wn t.wc (t.ws.flatMap Cl.cells) y2 ((A4.o.ws.up Ab.o).src Cl.size).1 ((A4.o.ws.up Ab.o).src Cl.size).2 (by rw [cj_ Cl.size,(A4.o.ws.up Ab.o).len]) (by have:=A4.o.wn;omega) (cl_one t.ws)).mono ?_;rintro e y3 ⟨AK,AT,rfl,A1,A2⟩;have As:=q_ (Ab.o.trans (A2.mono Ab.o.size));clear A1 A2;refine hK.out _ _ (Aq.o _ As.o) (fun hHeld=>?_);try simp only [Act.put,sA,s0,s1]
 have E0:=q_ (An.o.below As.o);have B3:=E0.o.2.1 36 _ Ax.o;have Ay:=E0.o.2.2 36;have V0:=q_ (AQ.o.trans (As.o.mono AQ.o.size));have D0:=q_ (AZ.o.below As.o);refine storeB 10 k_ rfl k_ (fun K hK=>?_);go_simp;refine hK.out _ _ ?_;try simp only [Act.put,sA,s0,s1]
 obtain ⟨Y1,Ag⟩:=ex_ (y3.setCell (f_ b1 36) (.slice AI gn AR));rw [<-Ag];have E1:=h_ (Bx Y1 b1 _) (by rw [Ag];exact E0.o.set 36 _);have D1:=h_ (Bx Y1 b2 _) (by rw [Ag];exact D0.o.far (p:=(f_ b1 36)) hne _);have V1:=h_ (Below w w Y1) (by rw [Ag];exact V0.o.setCell (p:=(f_ b1 36)) A5.1 _);clear Ag;have B4:Y1.cell? (f_ b1 37)=_:=E1.o.2.1 37 _ ((List.getElem?_set_ne d_).trans t.c37);have Az:=E1.o.2.2 37;refine storeB 11 k_ rfl k_ (fun K hK=>?_);go_simp;refine hK.out _ _ ?_;try simp only [Act.put,sA,s0,s1]
 refine storeB 12 k_ rfl k_ (fun K hK=>?_);go_simp;refine hK.out _ _ ?_;try simp only [Act.put,sA,s0,s1]
 obtain ⟨Y2,Ah⟩:=ex_ (Y1.setCell (f_ b1 37) (.slice AJ t.rn AS));rw [<-Ah];have E2:=h_ (Bx Y2 b1 _) (by rw [Ah];exact E1.o.set 37 _);have D2:=h_ (Bx Y2 b2 _) (by rw [Ah];exact D1.o.far (p:=(f_ b1 37)) hne _);have V2:=h_ (Below w w Y2) (by rw [Ah];exact V1.o.setCell (p:=(f_ b1 37)) A5.1 _);clear Ah;have B5:Y2.cell? (f_ b1 38)=_:=E2.o.2.1 38 _ ((List.getElem?_set_ne d_).trans ((List.getElem?_set_ne d_).trans t.c38));have AB:=E2.o.2.2 38;refine storeB 13 k_ rfl k_ (fun K hK=>?_);go_simp;refine hK.out _ _ ?_;try simp only [Act.put,sA,s0,s1]
 refine storeB 14 k_ rfl k_ (fun K hK=>?_);go_simp;refine hK.out _ _ ?_;try simp only [Act.put,sA,s0,s1]
 obtain ⟨Y3,Ai⟩:=ex_ (Y2.setCell (f_ b1 38) (.slice AK t.wn AT));rw [<-Ai];have E3:=h_ (Bx Y3 b1 _) (by rw [Ai];exact E2.o.set 38 _);have D3:=h_ (Bx Y3 b2 _) (by rw [Ai];exact D2.o.far (p:=(f_ b1 38)) hne _);have V3:=h_ (Below w w Y3) (by rw [Ai];exact V2.o.setCell (p:=(f_ b1 38)) A5.1 _);clear Ai;refine doneB k_ ?_ _;clear hHeld B3 Ay B4 Az B5 AB;have Ao:=q_ (Below.drew (Below.refl Y3 Y3));have Ap:=h_ (∀ w',Below Y3 Y3 w'->w'.cell? (f_ b1 39)=some (.slice t.NA t.nn t.nc)/\w'.cell? (f_ b1 40)=some (.slice t.DA t.dn t.dc)/\w'.cell? (f_ b1 41)=some (.slice AA an ac)) (fun w' hb=>⟨(E3.o.below hb).2.1 39 _ ((List.getElem?_set_ne d_).trans ((List.getElem?_set_ne d_).trans ((List.getElem?_set_ne d_).trans (t.c39)))),(E3.o.below hb).2.1 40 _ ((List.getElem?_set_ne d_).trans ((List.getElem?_set_ne d_).trans ((List.getElem?_set_ne d_).trans (t.c40)))),(E3.o.below hb).2.1 41 _ ((List.getElem?_set_ne d_).trans ((List.getElem?_set_ne d_).trans ((List.getElem?_set_ne d_).trans (Af.o))))⟩);go_upto_region 2 with fail;refine regionB (st:=10) (S:=fun w':World=>w'.cell? (f_ b1 39)=some (.slice t.NA t.nn t.nc)/\w'.cell? (f_ b1 40)=some (.slice t.DA t.dn t.dc)/\w'.cell? (f_ b1 41)=some (.slice AA an ac)) rfl (Ap.o _ Ao.o) (fun hHeld=>?_);go_simp;refine takeB 0 (some 15) ?_ rfl za_ k_ k_ k_ k_ d_ k_ (fun _ _ _ h=>h) (Or.inl ⟨za_,?_⟩) yd_ ?_;rotate_left
 ·intro w' A0;try dsimp only at A0
  go_simp;first | done | with_reducible rfl
 try simp only [Act.put,sA,s0,s1]
 refine takeB 1 (some 16) ?_ rfl za_ k_ k_ k_ k_ d_ k_ (fun _ _ _ h=>h) (Or.inl ⟨za_,?_⟩) yd_ ?_;rotate_left
 ·intro w' A0;try dsimp only at A0
  go_simp;first | done | with_reducible rfl
 try simp only [Act.put,sA,s0,s1]
 refine takeB 3 (some 18) ?_ rfl za_ k_ k_ k_ k_ d_ k_ (fun _ _ _ h=>h) (Or.inl ⟨za_,?_⟩) yd_ ?_;rotate_left
 ·intro w' A0;try dsimp only at A0
  go_simp;first | done | with_reducible rfl
 try simp only [Act.put,sA,s0,s1]
 refine takeB 4 (some 19) ?_ rfl za_ k_ k_ k_ k_ d_ k_ (fun _ _ _ h=>h) (Or.inl ⟨za_,?_⟩) yd_ ?_;rotate_left
 ·intro w' A0;try dsimp only at A0
  go_simp;first | done | with_reducible rfl
 try simp only [Act.put,sA,s0,s1]
 refine takeB 6 (some 21) ?_ rfl za_ k_ k_ k_ k_ d_ k_ (fun _ _ _ h=>h) (Or.inl ⟨za_,?_⟩) yd_ ?_;rotate_left
 ·intro w' A0;try dsimp only at A0
  go_simp;first | done | with_reducible rfl
 try simp only [Act.put,sA,s0,s1]
 refine takeB 7 (some 22) ?_ rfl za_ k_ k_ k_ k_ d_ k_ (fun _ _ _ h=>h) (Or.inl ⟨za_,?_⟩) yd_ ?_;rotate_left
 ·intro w' A0;try dsimp only at A0
  go_simp;first | done | with_reducible rfl
 try simp only [Act.put,sA,s0,s1]
 refine nextB 2 k_ rfl (fun K hK=>?_);go_simp;go_at_call 96;refine (each_any t.NA t.nn t.nc t.ns Y3.drew (A7.o.up (V3.o.trans (Ao.o.mono V3.o.size))).ns A7.o.nn (fun o ho=>⟨(Ae.o o ho).1.up (V3.o.trans (Ao.o.mono V3.o.size)),(Ae.o o ho).2⟩)).mono ?_;rintro e z1 ⟨AL,AX,AU,rfl,A2⟩;have A8:=q_ (Ao.o.trans A2);clear A2;refine hK.out _ _ (Ap.o _ A8.o) (fun hHeld=>?_);try simp only [Act.put,sA,s0,s1]
 refine takeB 9 (some 24) ?_ rfl za_ k_ k_ k_ k_ d_ k_ (fun _ _ _ h=>h) (Or.inl ⟨za_,?_⟩) yd_ ?_;rotate_left
 ·intro w' A0;try dsimp only at A0
  go_simp;first | done | with_reducible rfl
 try simp only [Act.put,sA,s0,s1]
 refine nextB 5 k_ rfl (fun K hK=>?_);go_simp;go_at_call 98;refine (SqCloD.any t.DA t.dn t.dc (t.ds.flatMap Dt.cells) z1 ((A7.o.up (V3.o.trans (A8.o.mono V3.o.size))).ds.src Dt.size).1 ((A7.o.up (V3.o.trans (A8.o.mono V3.o.size))).ds.src Dt.size).2 (by rw [cj_ Dt.size,(A7.o.up (V3.o.trans (A8.o.mono V3.o.size))).ds.len]) (by have:=A7.o.dn;omega) (dt_one t.ds)).mono ?_;rintro e z2 ⟨AM,AV,rfl,A1,A2⟩;have A9:=q_ (A8.o.trans (A2.mono A8.o.size));clear A1 A2;refine hK.out _ _ (Ap.o _ A9.o) (fun hHeld=>?_);try simp only [Act.put,sA,s0,s1]
 refine nextB 8 k_ rfl (fun K hK=>?_);go_simp;go_at_call 99;refine (SqCloA.any AA an ac (la.flatMap Ac.cells) z2 ((Aw.o.up (V3.o.trans (A9.o.mono V3.o.size))).src Ac.size).1 ((Aw.o.up (V3.o.trans (A9.o.mono V3.o.size))).src Ac.size).2 (by rw [cj_ Ac.size,(Aw.o.up (V3.o.trans (A9.o.mono V3.o.size))).len]) (by have:=Ba;omega) (ac_one la)).mono ?_;rintro e z3 ⟨AN,AW,rfl,A1,A2⟩;have Ar:=q_ (A9.o.trans (A2.mono A9.o.size));clear A1 A2;refine hK.out _ _ (Ap.o _ Ar.o) (fun hHeld=>?_);try simp only [Act.put,sA,s0,s1]
 have G0:=q_ (E3.o.below Ar.o);have B6:=G0.o.2.1 39 _ ((List.getElem?_set_ne d_).trans ((List.getElem?_set_ne d_).trans ((List.getElem?_set_ne d_).trans (t.c39))));have AC:=G0.o.2.2 39;have U0:=q_ (V3.o.trans (Ar.o.mono V3.o.size));have O0:=q_ (D3.o.below Ar.o);refine storeB 10 k_ rfl k_ (fun K hK=>?_);go_simp;refine hK.out _ _ ?_;try simp only [Act.put,sA,s0,s1]
 obtain ⟨Z1,Aj⟩:=ex_ (z3.setCell (f_ b1 39) (.slice AL AX AU));rw [<-Aj];have G1:=h_ (Bx Z1 b1 _) (by rw [Aj];exact G0.o.set 39 _);have O1:=h_ (Bx Z1 b2 _) (by rw [Aj];exact O0.o.far (p:=(f_ b1 39)) hne _);have U1:=h_ (Below w w Z1) (by rw [Aj];exact U0.o.setCell (p:=(f_ b1 39)) A5.1 _);clear Aj;have B7:Z1.cell? (f_ b1 40)=_:=G1.o.2.1 40 _ ((List.getElem?_set_ne d_).trans ((List.getElem?_set_ne d_).trans ((List.getElem?_set_ne d_).trans ((List.getElem?_set_ne d_).trans (t.c40)))));have AD:=G1.o.2.2 40;refine storeB 11 k_ rfl k_ (fun K hK=>?_);go_simp;refine hK.out _ _ ?_;try simp only [Act.put,sA,s0,s1]
 refine storeB 12 k_ rfl k_ (fun K hK=>?_);go_simp;refine hK.out _ _ ?_;try simp only [Act.put,sA,s0,s1]
 obtain ⟨Z2,Ak⟩:=ex_ (Z1.setCell (f_ b1 40) (.slice AM t.dn AV));rw [<-Ak];have G2:=h_ (Bx Z2 b1 _) (by rw [Ak];exact G1.o.set 40 _);have O2:=h_ (Bx Z2 b2 _) (by rw [Ak];exact O1.o.far (p:=(f_ b1 40)) hne _);have U2:=h_ (Below w w Z2) (by rw [Ak];exact U1.o.setCell (p:=(f_ b1 40)) A5.1 _);clear Ak;have B8:Z2.cell? (f_ b1 41)=_:=G2.o.2.1 41 _ ((List.getElem?_set_ne d_).trans ((List.getElem?_set_ne d_).trans ((List.getElem?_set_ne d_).trans ((List.getElem?_set_ne d_).trans ((List.getElem?_set_ne d_).trans (Af.o))))));have AE:=G2.o.2.2 41;refine storeB 13 k_ rfl k_ (fun K hK=>?_);go_simp;refine hK.out _ _ ?_;try simp only [Act.put,sA,s0,s1]
 refine storeB 14 k_ rfl k_ (fun K hK=>?_);go_simp;refine hK.out _ _ ?_;try simp only [Act.put,sA,s0,s1]
 obtain ⟨Z3,Al⟩:=ex_ (Z2.setCell (f_ b1 41) (.slice AN an AW));rw [<-Al];have G3:=h_ (Bx Z3 b1 _) (by rw [Al];exact G2.o.set 41 _);have O3:=h_ (Bx Z3 b2 _) (by rw [Al];exact O2.o.far (p:=(f_ b1 41)) hne _);have U3:=h_ (Below w w Z3) (by rw [Al];exact U2.o.setCell (p:=(f_ b1 41)) A5.1 _);clear Al;refine doneB k_ ?_ _;clear hHeld B6 AC B7 AD B8 AE;obtain ⟨cs,Au⟩:=ex_ ((((((t.cells.set 36 (.slice AI gn AR)).set 37 (.slice AJ t.rn AS)).set 38 (.slice AK t.wn AT)).set 39 (.slice AL AX AU)).set 40 (.slice AM t.dn AV)).set 41 (.slice AN an AW));have A3:cs.length=48:=by rw [Au];simp [t.size]
 have Am:cs.all (·.oneCell')=true:=by rw [Au];exact all_set (all_set (all_set (all_set (all_set (all_set t.one rfl) rfl) rfl) rfl) rfl) rfl
 have G4:=h_ (Bx Z3 b1 cs) (by rw [Au];exact G3.o);have HI:=h_ ((prog.info? 65).map (·.size)=some cs.length) (by rw [A3];exact tk_agg);have B0:=q_ G4.o.whole;have TH:=h_ (Z3.there b2 0 cs.length) (O3.o.there wj_);have AP:=h_ (∀ u ∈ cs,u.oneCell'=true) (fun u hu=>List.all_eq_true.1 Am u hu);have AO:=q_ A3;clear Au A3 Am;go_wp2_with (first | (with_reducible refine ac_ rfl 65 (.tmp 1) rfl _ underlying65 rfl v_ B0.o HI.o ?_) | (with_reducible refine ab_ rfl 65 (.tmp 2) (.tmp 27) rfl cs w_ v_ TH.o HI.o AP.o ?_));refine retC results52 za_ underlying65 rfl HI.o (cs:=cs) (O3.o.all cs (by rw [AO.o];rfl)).whole rfl ?_;exact ⟨cs,rfl,AO.o,List.all_eq_true.2 AP.o,(ag_ b2 cs 0 (Kp.of_below (X:=fun _=>False) U3.o) (.inr A5.2)).below (l_) (fun _ _ h=>h)⟩
end Go.Proofs.YtfolidlmgfhkiaaGreat.Sq
