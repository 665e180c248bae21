/- Lemmas on functions of the program, under the conditions that each states. -/
import Derived.Test.YtfolidlmgfhkiaaGreatY00
import Derived.Lib.AppendZerosOnto
import Derived.Laws.Externs
import Derived.OrdersIn
import Derived.RangeFuncCalls
import Derived.ProofKit
import Derived.Deep.Slices
import Derived.Deep.Fields
import Derived.ChangeSame
import Derived.Deep.RegionHeld3
import Derived.Deep.MidRow
import Derived.Deep.DeepCutAuto
import Derived.Deep.CutBlock
import Derived.Deep.LoopGhost
import Derived.Deep.RegionWith
import Derived.Shelf.SlicesE.Kit
import Derived.Laws.StructEq
import Derived.Orders
set_option linter.unusedVariables false
set_option linter.unusedSimpArgs false
set_option maxRecDepth 100000
set_option maxHeartbeats 4000000
namespace Go.Proofs.YtfolidlmgfhkiaaGreat
open Go.RowKit Go.Proofs.Tryz
namespace InsTrk
theorem infoE:(prog.info? 85).map (fun i=>(i.zero,i.size,i.bytes))=some (some (.agg #[i_ 0,i_ 0,i_ 0]),3,24):=by kernel_rfl
theorem sizeE:(prog.info? 85).map (·.size)=some 3:=by kernel_rfl
theorem end_nil (cs:VL) (base vb:Nat) (w:World) (hbase:base<=w) (hcs:cs.length=3) (hvb:w.heap[vb]?=some (.cells cs.toArray 85 (0,0))) (h1:∀ u ∈ cs,u.oneCell'=true) :
  Calls prog 66 #[.slice none 0 0,i_ 0,.slice (some (a_ vb)) 1 1] w fun e w'=>∃ v',e=.returned v'/\w'.ownsRow base 85 3 v' 1 cs/\w.grownBy w' none:=by
 obtain ⟨i0,hi,A2,A3,A4⟩:=info_parts infoE;have HC:=q_ hcs;have HV:=q_ hvb;clear hcs hvb;go_enter func66,ntmps66;go_wp2_with (at_builtin;refine wpList_append_own _ rfl _ _ 71 rfl base 85 i0 _ 3 24 underlying71 hi A2 A3 A4 rfl d_ _ _ _ rfl (World.ownsRow_nil _ _ _ _) (a_ vb) 1 1 cs rfl (by rw [HC.o]) (World.news_of_block HV.o) h1 m_ o_ hbase ?_;intro v' w1 A1 A0 _);go_ret;exact ⟨_,rfl,A1,A0⟩
theorem end_some (g n cap:Nat) (xs cs:VL) (base vb:Nat) (w:World) (hown:w.ownsRow base 85 3 (.slice (some (a_ g)) n cap) n xs) (_hnc:n<=cap) (_hcm:cap<=9223372036854775807) (hn:n<=1000000) (hbase:base<=w)
  (hcs:cs.length=3) (hvb:w.heap[vb]?=some (.cells cs.toArray 85 (0,0))) (h1:∀ u ∈ cs,u.oneCell'=true) :
  Calls prog 66 #[.slice (some (a_ g)) n cap,i_ n,.slice (some (a_ vb)) 1 1] w fun e w'=>∃ v',e=.returned v'/\w'.ownsRow base 85 3 v' (n+1) (xs ++ cs)/\w.grownBy w' (some g):=by
 obtain ⟨i0,hi,A2,A3,A4⟩:=info_parts infoE;have HC:=q_ hcs;have HV:=q_ hvb;clear hcs hvb;by_cases hcap:cap=n;all_goals
  go_enter func66,ntmps66;go_wp2_with (at_builtin;refine wpList_append_own _ rfl _ _ 71 rfl base 85 i0 _ 3 24 underlying71 hi A2 A3 A4 rfl d_ _ _ _ rfl hown (a_ vb) 1 1 cs rfl (by rw [HC.o]) (World.news_of_block HV.o) h1 m_ o_ hbase ?_;intro v' w1 A1 A0 _);go_ret;exact ⟨_,rfl,A1,A0⟩
theorem shift (g n cap i:Nat) (cur xs cs:VL) (vb:Nat) (w:World) (hg:w.heap[g]?=some (.cells cur.toArray 85 (0,0))) (hcur:cur.length=cap*3) (hx:cur.take (n*3)=xs)
  (hi:i<n) (hroom:n+1<=cap) (hcm:cap<=9223372036854775807) (hn:n<=1000000)
  (hcs:cs.length=3) (hvb:w.heap[vb]?=some (.cells cs.toArray 85 (0,0))) (hne:vb≠g) (h1:∀ u ∈ cs,u.oneCell'=true) (h1x:∀ u ∈ xs,u.oneCell'=true) :
  Calls prog 66 #[.slice (some (a_ g)) n cap,i_ i,.slice (some (a_ vb)) 1 1] w fun e w' =>
   e=.returned (.slice (some (a_ g)) (n+1) cap)/\Hid (w'.heap[g]?=some (.cells (splice (splice cur ((i+1)*3) (xs.drop (i*3))) (i*3) cs).toArray 85 (0,0)))/\w.grownBy w' (some g):=by
 have Aa:xs.length=n*3:=by rw [<-hx,List.length_take,hcur];omega
 have A9:w.shape? vb=some (85,3):=by simp [World.shape?,hvb,hcs]
 have A7:w.shape? g=some (85,cap*3):=by simp [World.shape?,hg,hcur]
 have Ad:w.frozen? (a_ vb)=false:=by simp [World.frozen?,hvb]
 have Ae:w.frozen? (f_ vb 3)=false:=by simp [World.frozen?,hvb]
 have Ah:∀ lb cb,(callFunc 105 #[.slice (some (a_ vb)) 1 1,.slice (some ⟨g,(i+1)*3,none⟩) lb cb]).run prog w=.ok (.value (.bool false)) w:=fun lb cb=>by
  rw [run_callFunc_extern func105 k_ k_ k_ (e:=Extern.SlicesOverlaps.overlaps #[71,71] #[4]) k_,
   Lib.run_overlaps_apart w 71 4 85 underlying71 3 (fun w=>k_) (a_ vb) ⟨g,(i+1)*3,none⟩ 1 1 lb cb hne _ _ _ _ A9 A7 o_ Ad Ae]
  rfl
 have HG:=q_ hg;have HC:=q_ hcs;have HV:=q_ hvb;have HX:=q_ hx;have A6:=q_ Aa;have A5:=q_ hcur;have Ak:¬(cap=i+1):=by omega
 have Al:¬(cap=i):=by omega
 clear hg hcs hvb A9 A7 hx Aa hcur;go_enter func66,ntmps66;go_wp2_with (simp only [Ah]);have A2:∀ (j:Nat) (u:Value),(xs.drop (i*3))[j]?=some u->w.drew.cell? ((⟨g,i*3,none⟩:Addr).add j)=some u:=fun j u hu=>by
  rw [Addr.add_lit];show w.cell? _=_
  rw [cell_of_row w g _ _ _ _ HG.o];rw [<-HX.o,List.getElem?_drop,List.getElem?_take] at hu;split at hu
  ·simpa using hu
  cases hu
 have Aj:IntKind.i64.wrap ((i:Int)+1)=(i:Int)+1:=IntWalk.i64_in _ o_;have Ab:(0:Int)<=(i:Int)+1:=by omega
 have hin:i<=n:=by omega
 have Ai:((i:Int)+1).toNat=i+1:=by omega
 have Ac:(i:Int)<=(n:Int)+1:=by omega
 go_region_law (refine step_copy_N rfl _ _ 71 71 rfl 85 3 underlying71 sizeE g ((i+1)*3) (n - i) (cap - (i+1)) ⟨g,i*3,none⟩ (n+1 - i) (cap - i) v_ v_ cur 85 HG.o (xs.drop (i*3)) (by rw [List.length_drop,A6.o,show Nat.min (n+1 - i) (n - i)=n - i from Nat.min_eq_right o_];omega) A2 (by rw [List.length_drop,A6.o,A5.o];omega) (fun u hu=>h1x u (List.mem_of_mem_drop hu)) ?_;intro w1 Af A0);clear Aj Ab Ai Ac;have A3:(splice cur ((i+1)*3) (xs.drop (i*3))).length=cap*3:=by rw [length_splice _ _ _ (by rw [List.length_drop,A6.o,A5.o];omega),A5.o]
 have A4:w1.heap[vb]?=some (.cells cs.toArray 85 (0,0)):=(A0.block vb (by have h:=HV.o;rcases Nat.lt_or_ge vb w with h' | h';exact h';rw [Array.getElem?_eq_none h'] at h;cases h) (by simpa using hne)).trans HV.o;have HL:=q_ A3;have HW:=q_ A4;clear A3 A4 A2;go_wp2_with (with_reducible refine wpList_copy_N rfl _ _ 71 71 rfl 85 3 underlying71 sizeE g (i*3) (n+1 - i) (cap - i) (a_ vb) 1 1 rfl rfl (splice cur ((i+1)*3) (xs.drop (i*3))) 85 Af.o cs wx_ (fun j u hu=>by rw [Addr.add_lit,cell_of_row _ _ _ _ _ _ HW.o];simpa using hu) (by rw [HC.o,HL.o];omega) h1 ?_;intro w2 Ag A1);go_ret;exact ⟨rfl,Ag,⟨A1.os.trans A0.os,A1.tape.trans A0.tape,A1.output.trans A0.output,Nat.le_trans A0.size A1.size,fun k hk A8=>(A1.block k (lt_ hk A0.size) A8).trans (A0.block k hk A8)⟩⟩
theorem grow (g n cap i:Nat) (cur xs cs:VL) (vb:Nat) (w:World) (hg:w.heap[g]?=some (.cells cur.toArray 85 (0,0))) (hcur:cur.length=cap*3) (hx:cur.take (n*3)=xs)
  (hi:i<n) (hroom:cap<n+1) (hnc:n<=cap) (hn:n<=1000000)
  (hcs:cs.length=3) (hvb:w.heap[vb]?=some (.cells cs.toArray 85 (0,0))) (h1:∀ u ∈ cs,u.oneCell'=true) (h1x:∀ u ∈ xs,u.oneCell'=true) :
  Calls prog 66 #[.slice (some (a_ g)) n cap,i_ i,.slice (some (a_ vb)) 1 1] w fun e w' =>
   ∃ (G:Nat) (row:VL),n+1<=G/\G<=9223372036854775807/\row.length=G*3/\row.take (i*3)=xs.take (i*3)/\e=.returned (.slice (some (a_ w)) (n+1) G) ∧
    Hid (w'.heap[w.heap.size]?=some (.cells (splice (splice row (i*3) cs) ((i+1)*3) (xs.drop (i*3))).toArray 85 (0,0)))/\w.grownBy w' none:=by
 obtain ⟨i0,Ak,A8,Ap,Ag⟩:=info_parts infoE;have Ac:xs.length=n*3:=by rw [<-hx,List.length_take,hcur,Nat.min_eq_left (Nat.mul_le_mul_right _ hnc)]
 have AA:g<w:=by rcases Nat.lt_or_ge g w with h' | h';exact h';rw [Array.getElem?_eq_none h'] at hg;cases hg
 have AC:vb<w:=by rcases Nat.lt_or_ge vb w with h' | h';exact h';rw [Array.getElem?_eq_none h'] at hvb;cases hvb
 have Af:∀ (j:Nat) (u:Value),xs[j]?=some u->w.cell? (f_ g j)=some u:=fun j u hu=>by
  rw [cell_of_row w g _ _ _ _ hg];rw [<-hx,List.getElem?_take] at hu;split at hu
  ·simpa using hu
  cases hu
 have Al:(n:Int)+1 - (i:Int)=((n+1 - i:Nat):Int):=by omega
 have Ae:i+(n+1 - i)=n+1:=by omega
 have A6:(Builtin.firstCells i0.size i (.slice (some (a_ g)) i cap)).run prog w.drew=.ok (xs.take (i*3)).toArray w.drew:=by
  rw [Ap];exact run_firstCells_some w.drew 3 i (a_ g) i cap (xs.take (i*3)) (by rw [List.length_take,Ac];omega) (fun j v hj=>by
   rw [Addr.add_lit]
   rw [List.getElem?_take] at hj
   split at hj
   ·rw [Nat.zero_add];exact Af j v hj
   cases hj)
 have Aa:∀ ty,(Builtin.append_ #[71,3] ty #[.slice (some (a_ g)) i cap,i_ ((n:Int)+1 - (i:Int))]).run prog w =
   .ok (.slice (some (a_ w)) (n+1) (grownCap w (n+1) cap 85)) (w.drew.alloc (.cells ((xs.take (i*3)).toArray ++ Builtin.zeroCells (.agg #[i_ 0,i_ 0,i_ 0]:Value).cells (n+1 - i) ++ Builtin.zeroCells (.agg #[i_ 0,i_ 0,i_ 0]:Value).cells (grownCap w (n+1) cap 85 - (n+1))) 85)):=fun ty=>by
  have h:=Lib.run_append_grow_zeros w 71 3 ty 85 i0 _ .i64 .i64 underlying71 underlying3 Ak A8 (some (a_ g)) i cap (xs.take (i*3)) A6 (n+1 - i) o_ o_ o_ o_ (by rw [Ag];omega) (by rw [Ag,Ae];exact growslice_fits hroom o_);rw [Ae] at h;rw [Al];exact h
 obtain ⟨G,hG⟩:=ex_ (grownCap w (n+1) cap 85);obtain ⟨row,A2⟩:∃ row:VL,row=((xs.take (i*3)).toArray ++ Builtin.zeroCells (.agg #[i_ 0,i_ 0,i_ 0]:Value).cells (n+1 - i) ++ Builtin.zeroCells (.agg #[i_ 0,i_ 0,i_ 0]:Value).cells (G - (n+1))).toList:=⟨_,rfl⟩;have Av:n+1<=G:=by rw [hG];exact grownCap_ge w _ _ _
 have Ad:G<=9223372036854775807:=by
  have:=grownCap_le_maxLen w (n+1) cap 85 m_;rw [<-hG] at this;unfold maxLen at this;omega
 have Ab:(xs.take (i*3)).length=i*3:=by rw [List.length_take,Ac];omega
 have Ao:(Value.cells (.agg #[i_ 0,i_ 0,i_ 0])).size=3:=rfl;have Ai:row.length=G*3:=by
  rw [A2];simp only [Array.toList_append,List.length_append,Array.length_toList,size_zeroCells,Ab,Ao];omega
 have Aj:row.take (i*3)=xs.take (i*3):=by
  rw [A2];simp only [Array.toList_append,List.append_assoc];rw [List.take_append_of_le_length (by rw [Ab];exact l_),List.take_of_length_le (by rw [Ab];exact l_)]
 rw [<-hG] at Aa;have A3:((xs.take (i*3)).toArray ++ Builtin.zeroCells (.agg #[i_ 0,i_ 0,i_ 0]:Value).cells (n+1 - i) ++ Builtin.zeroCells (.agg #[i_ 0,i_ 0,i_ 0]:Value).cells (G - (n+1)))=row.toArray:=by rw [A2]
 rw [A3] at Aa;have HG:=q_ hg;have HC:=q_ hcs;have HV:=q_ hvb;have Ah:=q_ Ac;have As:=q_ Af;have A9:=q_ Ai;have Aq:=q_ Aj;have HB:Hid ((w.alloc (.cells row.toArray 85)).drew.heap[w.heap.size]?=some (.cells row.toArray 85 (0,0))):=by exact heap_alloc_new w _
 have HR:=q_ Aa;have AG:¬(cap=i):=by omega
 have AF:¬(G=i):=by omega
 have Au:¬(G=i+1):=by omega
 clear hg hcs hvb hx Ac hcur Af Al Ae A6 A2 A3 Ai Aj Ab Ao Aa Ak A8 Ap Ag hG;go_enter func66,ntmps66;have Am:(w.alloc (.cells row.toArray 85)).drew.heap[vb]?=some (.cells cs.toArray 85 (0,0)):=(Below.heap_alloc w _ vb AC).trans HV.o;have Ar:=q_ Am;clear Am;go_wp2_with (first | (at_builtin;refine Lib.wpList_append_run _ rfl _ _ _ _ rfl _ _ rfl rfl _ _ (HR.o _) ?_) | (with_reducible refine wpList_copy_N rfl _ _ 71 71 rfl 85 3 underlying71 sizeE w (i*3) (n+1 - i) (G - i) (a_ vb) 1 1 rfl rfl row 85 HB.o cs wx_ (fun j u hu=>by rw [Addr.add_lit,cell_of_row _ _ _ _ _ _ Ar.o];simpa using hu) (by rw [HC.o,A9.o];omega) h1 ?_;intro w1 Ay A0));have A4:g<(w.alloc (.cells row.toArray 85)).drew.heap.size:=by show g<(w.alloc (.cells row.toArray 85)).heap.size;simp;omega
 have An:∀ (j:Nat) (u:Value),xs[j]?=some u->w1.cell? (f_ g j)=some u:=fun j u hu=>by
  have e1:=A0.block g A4 vc_;have e2:w1.heap[g]?=w.heap[g]?:=e1.trans (Below.heap_alloc w _ g AA);rw [World.cell?_of_block (w:=w) e2];exact As.o j u hu
 have A5:(splice row (i*3) cs).length=G*3:=by rw [length_splice _ _ _ (by rw [HC.o,A9.o];omega),A9.o]
 have A7:∀ (j:Nat) (u:Value),(xs.drop (i*3))[j]?=some u->w1.drew.cell? ((⟨g,i*3,none⟩:Addr).add j)=some u:=fun j u hu=>by
  rw [Addr.add_lit];rw [List.getElem?_drop] at hu;exact An _ u hu
 have HL:=q_ A5;have AD:IntKind.i64.wrap ((i:Int)+1)=(i:Int)+1:=IntWalk.i64_in _ o_;have Aw:(0:Int)<=(i:Int)+1:=by omega
 have hin:i<=n:=by omega
 have AB:((i:Int)+1).toNat=i+1:=by omega
 have Ax:(i:Int)<=(n:Int):=by omega
 clear A5 An A4;go_region_law (refine step_copy_N rfl _ _ 71 71 rfl 85 3 underlying71 sizeE w ((i+1)*3) (n - i) (G - (i+1)) ⟨g,i*3,none⟩ (n - i) (cap - i) v_ v_ (splice row (i*3) cs) 85 Ay.o (xs.drop (i*3)) (by rw [List.length_drop,Ah.o,show Nat.min (n - i) (n - i)=n - i from Nat.min_eq_left (l_)];omega) A7 (by rw [List.length_drop,Ah.o,HL.o];omega) (fun u hu=>h1x u (List.mem_of_mem_drop hu)) ?_;intro w2 Az A1);clear AD Aw AB Ax;go_wp2;go_ret;have AE:=A0.size;have A8:(w.alloc (.cells row.toArray 85)).drew.heap.size=w+1:=by show (w.alloc (.cells row.toArray 85)).heap.size=_;simp
 rw [A8] at AE;refine ⟨G,row,Av,Ad,A9.o,Aq.o,rfl,Az,⟨A1.os.trans A0.os,A1.tape.trans A0.tape,A1.output.trans A0.output,?_,fun k hk _=>?_⟩⟩
 ·have h2:(w1:Nat)<=w2:=A1.size;omega
 exact (A1.block k (show k<w1 by omega) vc_).trans ((A0.block k (by rw [A8];omega) vc_).trans (Below.heap_alloc w _ k hk))
theorem any (v:Value) (n i:Nat) (xs cs:VL) (base vb:Nat) (w:World) (hown:w.ownsRow base 85 3 v n xs) (hi:i<=n) (hn:n<=1000000) (hbase:base<=w)
  (hcs:cs.length=3) (hvb:w.heap[vb]?=some (.cells cs.toArray 85 (0,0))) (hne:v.ownBlock≠some vb) (h1:∀ u ∈ cs,u.oneCell'=true) (h1x:∀ u ∈ xs,u.oneCell'=true) :
  Calls prog 66 #[v,i_ i,.slice (some (a_ vb)) 1 1] w fun e w' =>
   ∃ A' c',e=.returned (.slice A' (n+1) c')/\w'.ownsRow base 85 3 (.slice A' (n+1) c') (n+1) (xs.take (i*3) ++ cs ++ xs.drop (i*3))/\w.grownBy w' v.ownBlock:=by
 have A1:=hown.1;rcases hown.2 with ⟨rfl,rfl⟩ | ⟨g,cap,cur,rfl,hbg,hg,hnc,hcm,hcs',htake⟩
 ·obtain rfl:i=0:=by omega
  obtain rfl:xs=[]:=List.eq_nil_of_length_eq_zero (by simpa using A1);refine (end_nil cs base vb w hbase hcs hvb h1).mono ?_;rintro e w' ⟨v',rfl,h2,h3⟩;rcases own_form h2 o_ with ⟨A',c',rfl⟩;exact ⟨A',c',rfl,xx_,h3⟩
 have A4:vb≠g:=by rintro rfl;exact hne rfl
 have A2:cap<=9223372036854775807:=by unfold maxLen at hcm;omega
 have A0:cur.toList.length=cap*3:=by rw [Array.length_toList,hcs']
 have A5:w.heap[g]?=some (.cells cur.toList.toArray 85 (0,0)):=by simpa using hg
 have A9:n*3<=cap*3:=Nat.mul_le_mul_right _ hnc;by_cases hin:i=n
 ·subst hin;refine (end_some g i cap xs cs base vb w hown hnc A2 hn hbase hcs hvb h1).mono ?_;rintro e w' ⟨v',rfl,h2,h3⟩;rcases own_form h2 o_ with ⟨A',c',rfl⟩;refine ⟨A',c',rfl,?_,h3⟩;rw [List.take_of_length_le o_,List.drop_eq_nil_of_le o_,List.append_nil];exact h2
 by_cases hroom:n+1<=cap
 ·refine (shift g n cap i cur.toList xs cs vb w A5 A0 htake o_ hroom A2 hn hcs hvb A4 h1 h1x).mono ?_;rintro e w' ⟨rfl,h2,h3⟩;have hs:=splice_shift cur.toList xs cs (i*3) 3 (n*3) htake hcs o_ o_;rw [show i*3+3=(i+1)*3 by omega,show n*3+3=(n+1)*3 by omega] at hs;refine ⟨_,_,rfl,⟨?_,.inr ⟨g,cap,_,rfl,hbg,h2.o,hroom,hcm,?_,by simpa using hs⟩⟩,h3⟩
  ·simp only [List.length_append,List.length_take,List.length_drop,hcs,A1];omega
  rw [List.size_toArray,length_splice _ _ _ (by rw [hcs,length_splice _ _ _ (by rw [List.length_drop,A1,A0];omega),A0];omega),length_splice _ _ _ (by rw [List.length_drop,A1,A0];omega),A0]
 refine (grow g n cap i cur.toList xs cs vb w A5 A0 htake o_ o_ hnc hn hcs hvb h1 h1x).mono ?_;rintro e w' ⟨G,row,A7,A6,A3,A8,rfl,h2,h3⟩;have hs:=splice_grow row xs cs (i*3) 3 (n*3) A8 hcs o_ o_ o_;rw [show i*3+3=(i+1)*3 by omega,show n*3+3=(n+1)*3 by omega] at hs;refine ⟨_,_,rfl,⟨?_,.inr ⟨w.heap.size,G,_,rfl,hbase,h2.o,A7,by unfold maxLen;omega,?_,by simpa using hs⟩⟩,⟨h3.os,h3.tape,h3.output,h3.size,fun k hk _=>h3.block k hk t_⟩⟩
 ·simp only [List.length_append,List.length_take,List.length_drop,hcs,A1];omega
 rw [List.size_toArray,length_splice _ _ _ (by rw [List.length_drop,A1,length_splice _ _ _ (by rw [hcs,A3];omega),A3];omega),length_splice _ _ _ (by rw [hcs,A3];omega),A3]
end InsTrk
namespace CloneTrk
theorem infoE:(prog.info? 85).map (fun i=>(i.zero,i.size,i.bytes))=some (some (.agg #[i_ 0,i_ 0,i_ 0]),3,24):=by kernel_rfl
theorem any (A:OA) (n c:Nat) (xs:VL) (w:World) (hA:A=none->n=0) (hsrc:∀ ad,A=some ad->∀ (j:Nat) (u:Value),xs[j]?=some u->w.cell? (ad.add j)=some u)
  (hl:xs.length=n*3) (hn:n<=1000000) (h1:∀ u ∈ xs,u.oneCell'=true) :
  Calls prog 64 #[.slice A n c] w fun e w'=>∃ A' c',e=.returned (.slice A' n c')/\w'.ownsRow w 85 3 (.slice A' n c') n xs/\Below w w w':=by
 obtain ⟨i0,hi,A5,A6,A7⟩:=info_parts infoE;have HL:=q_ hl;clear hl;cases A with
 | none =>
  obtain rfl:=hA rfl;obtain rfl:xs=[]:=List.eq_nil_of_length_eq_zero (by simpa using HL.o);have A2:=fun (w:World)=>Lib.run_eql_slice_nil (P:=prog) w 71 85 none 0 c 0 0 underlying71
  go_enter func64,ntmps64;exact te_
 | some ad =>
  have HS:=q_ (hsrc ad rfl);clear hsrc hA;have A3:∀ (j:Nat) (u:Value),xs[j]?=some u->(w.alloc (.cells #[] 85)).cell? (ad.add j)=some u:=fun j u hu=>by
   exact up_
  have A4:=q_ A3;clear A3;have A2:=fun (w:World)=>Lib.run_eql_slice_nil (P:=prog) w 71 85 (some ad) n c 0 0 underlying71
  go_enter func64,ntmps64;go_wp2_with (at_builtin;refine wpList_append_own _ rfl _ _ 71 rfl w 85 i0 _ 3 24 underlying71 hi A5 A6 A7 rfl d_ _ _ _ rfl (World.ownsRow_made w #[] 0 (l_) m_ rfl) ad n c xs rfl HL.o A4.o h1 m_ o_ t_ ?_;intro v' w1 A0 A1 _);go_ret;have hz:=A1.size;rw [Nat.zero_add,List.nil_append] at A0;have hb:Below w w w1:=((b_).alloc (l_) _).grown A1 t_ (fun k hk=>by injection hk with hk;subst hk;exact l_);rcases A0.2 with ⟨rfl,h0⟩ | ⟨g,cap,cur,rfl,_⟩
  ·subst h0;exact ⟨none,0,rfl,A0,hb⟩
  exact ⟨_,_,rfl,A0,hb⟩
end CloneTrk
end Go.Proofs.YtfolidlmgfhkiaaGreat
namespace Go.Proofs.YtfolidlmgfhkiaaGreat
open Go.RowKit
def noDefer (o:Oper):Bool:=match o.op with | .defer _=>false | _=>true
theorem noDefer_spec {o:Oper} (h:noDefer o=true):∀ c,o.op≠.defer c:=fun c e=>by unfold noDefer at h;rw [e] at h;cases h
section
variable {P:Program} {ops:Array Oper} {Q:Exit->Act->World->Prop} {md:Region.Mode} {l n:Nat}
theorem wpIn_of_wp_round {o:Oper} {a:Act} {w:World} {K:Act->World->Prop} (hnd:noDefer o=true) (h:o.wp P a w K Q):o.wpIn (Fence.wide.inRound l) n P a w K Q:=by
 unfold Oper.wpIn;refine ⟨fun _ _=>trivial,?_⟩;rw [show (Fence.wide.inRound l).round=some l from rfl,Oper.semAt_some l _ _ (noDefer_spec hnd)];unfold Oper.wp at h;generalize (execOp a.eval o).run P w=r at *;cases r with
 | ok x w' =>
  cases x with
  | value v=>exact h
  | skip=>exact h
  | defer d=>exact h
  | enter f args=>exact ⟨fun e=>(by simp [Fence.inRound,Fence.wide] at e),(CallsIn.inRound l (callsIn_wide.2 h)).mono fun e A0 he=>(by cases e <;> exact he)⟩
  | row row args =>
   refine ⟨fun e=>(by simp [Fence.inRound,Fence.wide] at e),fun c cs _=>?_⟩;obtain ⟨v,A0,r,s⟩:=h c cs;exact ⟨v,A0,r,stepsIn_wide.2 s⟩
  | _=>exact h.elim
 | halt x w'=>cases x <;> exact h
theorem df_ (hnd:∀ (i:Nat) (o:Oper),ops[i]?=some o->noDefer o=true) (hlo:∀ a w,¬Q .outgrown a w):∀ (fuel:Nat) (listed:Array Bool) (a:Act) (w:World),wpAny P md ops Q fuel listed a w->wpAnyIn (Fence.wide.inRound l) n P md ops Q fuel listed a w
 | 0,_,_,_,h=>h
 | fuel+1,listed,a,w,h=>by
  refine ⟨h.1,fun i hi=>?_⟩;have h2:=h.2 i hi;unfold wpOp at h2;unfold wpOpIn;cases ho:ops[i]? with
  | none =>
   simp only [ho] at h2 ⊢;exact df_ hnd hlo fuel _ a w h2
  | some o =>
   simp only [ho] at h2 ⊢;by_cases hw:Region.wanted o (yielded ops a.tmps)=true
   ·simp only [hw,if_true] at h2 ⊢;rcases h2 with h2 | ⟨_,a',w',h2⟩
    ·exact wpIn_of_wp_round (hnd i o ho) (Go.Oper.wp_mono (fun a w hK=>df_ hnd hlo fuel _ a w hK) h2)
    exact absurd h2 (hlo a' w')
   simp only [hw,if_false,Bool.false_eq_true] at h2 ⊢;exact ⟨fun _ _=>trivial,df_ hnd hlo fuel _ _ w h2⟩
theorem region_round {id:Nat} {a:Act} {w:World} {S:World->Prop} (hm:P.follows .mixedOrders=true) (hnd:ops.all noDefer=true) (hlo:∀ a w,¬Q .outgrown a w) (hS:S w.drew)
  (h:S w.drew->wpAnyH P .any ops Q S ops.size (Array.replicate ops.size false) a w.drew):(Code.region id ops true).wpIn (Fence.wide.inRound l) n P Q a w :=
 wpIn_region_any hm (df_ (fun i o ho=>by
  obtain ⟨hi,e⟩:=Array.getElem?_eq_some_iff.1 ho
  rw [<-e]
  exact Array.all_eq_true.1 hnd i hi) hlo _ _ _ _ (wpAny_of_held _ _ _ _ (h hS)))
end
inductive CT where
 | num | tru | txt
 | sl (e:List CT)
 | lst (p:VL->Prop) (e:List CT)
 | sat (p:Value->Prop)
inductive VT (w:World) (X:NP) (K:Nat):CT->Value->Prop
 | num (n:Int):VT w X K .num (.int .i64 n)
 | tru (x:Bool):VT w X K .tru (.bool x)
 | txt (x:ByteArray):VT w X K .txt (.string x)
 | nil (e:List CT):VT w X K (.sl e) (.slice none 0 0)
 | sl (e:List CT) (g o n c:Nat) (f:Nat->Nat->Value) (hg:g<w) (hX:¬X g) (hn:n<=K) (hc:n<=c) (hm:c<=9223372036854775807)
   (hf:∀ k j t,k<n->e[j]?=some t->w.cell? ⟨g,o+(k*e.length+j),none⟩=some (f k j))
   (ht:∀ k j t,k<n->e[j]?=some t->VT w X K t (f k j)):VT w X K (.sl e) (.slice (some (f_ g o)) n c)
 | sat (p:Value->Prop) (v:Value) (h:v.oneCell'=true) (hp:p v):VT w X K (.sat p) v
 | lnil (p:VL->Prop) (e:List CT):VT w X K (.lst p e) (.slice none 0 0)
 | lst (p:VL->Prop) (e:List CT) (g o n c:Nat) (f:Nat->Nat->Value) (hg:g<w) (hX:¬X g) (hn:n<=K) (hc:n<=c) (hm:c<=9223372036854775807)
   (hf:∀ k j t,k<n->e[j]?=some t->w.cell? ⟨g,o+(k*e.length+j),none⟩=some (f k j))
   (ht:∀ k j t,k<n->e[j]?=some t->VT w X K t (f k j)) (hp:∀ k,k<n->p ((List.range e.length).map (f k))):VT w X K (.lst p e) (.slice (some (f_ g o)) n c)
structure Kp (X:NP) (w w':World):Prop where
 os:w'.os=w.os
 tape:w'.tape=w.tape
 output:w'.output=w.output
 size:(w:Nat)<=w'
 block:∀ k,k<w.heap.size->¬X k->w'.heap[k]?=w.heap[k]?
section
variable {X Y:NP} {w w' w2:World} {K K':Nat} {t:CT} {v:Value}
theorem Kp.refl (X:NP) (w:World):Kp X w w:=⟨rfl,rfl,rfl,l_,fun _ _ _=>rfl⟩
theorem Kp.trans (h:Kp X w w') (h2:Kp X w' w2):Kp X w w2:=⟨h2.os.trans h.os,h2.tape.trans h.tape,h2.output.trans h.output,Nat.le_trans h.size h2.size,fun k hk hx=>(h2.block k (lt_ hk h.size) hx).trans (h.block k hk hx)⟩
theorem Kp.mono (h:Kp X w w') (hXY:∀ k,k<w.heap.size->X k->Y k):Kp Y w w':=⟨h.os,h.tape,h.output,h.size,fun k hk hx=>h.block k hk (fun hX=>hx (hXY k hk hX))⟩
theorem Kp.of_below (h:Below w.heap.size w w'):Kp X w w':=⟨h.os,h.tape,h.output,h.size,fun k hk _=>h.block k hk⟩
theorem Kp.below (h:Kp X w w') {B:Nat} (hB:B<=w.heap.size) (hX:∀ k,k<B->¬X k):Below B w w':=⟨h.os,h.tape,h.output,h.size,fun k hk=>h.block k (lt_ hk hB) (hX k hk)⟩
theorem Kp.drew (h:Kp X w w'):Kp X w w'.drew:=⟨h.os,h.tape,h.output,h.size,h.block⟩
theorem Kp.drewN (h:Kp X w w') (m:Nat):Kp X w (w'.drewN m):=⟨h.os,h.tape,h.output,h.size,h.block⟩
theorem Kp.alloc (h:Kp X w w') (o:Obj):Kp X w (w'.alloc o):=h.trans ⟨rfl,rfl,rfl,zk_,fun k hk _=>Below.heap_alloc _ _ _ hk⟩
theorem Kp.setCell (h:Kp X w w') {p:Addr} (hp:X p.block\/w.heap.size<=p.block) (u:Value):Kp X w (w'.setCell p u) :=
 ⟨h.os,h.tape,h.output,by simpa [World.setCell] using h.size,fun k hk hx=>(Below.heap_setCell _ _ _ _ (fun e=>by subst e;rcases hp with hp | hp;exact hx hp;omega)).trans (h.block k hk hx)⟩
theorem Kp.grown {row:Option Nat} (h:Kp X w w') (hg:w'.grownBy w2 row) (hr:∀ k,row=some k->X k\/w.heap.size<=k):Kp X w w2 :=
 ⟨hg.os.trans h.os,hg.tape.trans h.tape,hg.output.trans h.output,Nat.le_trans h.size hg.size,fun k hk hx=>(hg.block k (lt_ hk h.size) (fun e=>by rcases hr k e.symm with hq | hq;exact hx hq;omega)).trans (h.block k hk hx)⟩
theorem Kp.az_ (h:Kp X w w') (h2:Below w'.heap.size w' w2):Kp X w w2:=h.trans (.of_below h2)
theorem Kp.cell (h:Kp X w w') {b o:Nat} (hb:b<w.heap.size) (hx:¬X b):w'.cell? (f_ b o)=w.cell? (f_ b o):=World.cell?_of_block (w:=w) (h.block b hb hx)
theorem Kp.frozen (h:Kp X w w') {b o:Nat} (hb:b<w.heap.size) (hx:¬X b):w'.frozen? (f_ b o)=w.frozen? (f_ b o):=World.frozen?_of_block (w:=w) (h.block b hb hx)
theorem VT.kept (h:VT w X K t v) (hk:Kp X w w') (hXY:∀ k,k<w.heap.size->¬X k->¬Y k) (hK:K<=K'):VT w' Y K' t v:=by
 induction h with
 | num n=>exact .num n
 | tru x=>exact .tru x
 | txt x=>exact .txt x
 | nil e=>exact .nil e
 | sl e g o n c f hg hX hn hc hm hf ht ih =>
  exact .sl e g o n c f (lt_ hg hk.size) (hXY g hg hX) (Nat.le_trans hn hK) hc hm (fun k j t A0 hj=>(hk.cell hg hX).trans (hf k j t A0 hj)) ih
 | sat p v h hp=>exact .sat p v h hp
 | lnil p e=>exact .lnil p e
 | lst p e g o n c f hg hX hn hc hm hf ht hp ih =>
  exact .lst p e g o n c f (lt_ hg hk.size) (hXY g hg hX) (Nat.le_trans hn hK) hc hm (fun k j t A0 hj=>(hk.cell hg hX).trans (hf k j t A0 hj)) ih hp
theorem VT.up (h:VT w X K t v) (hk:Kp X w w') (hK:K<=K'):VT w' X K' t v:=h.kept hk (fun _ _ h=>h) hK
theorem VT.less (h:VT w X K t v) (hXY:∀ k,k<w.heap.size->Y k->X k):VT w Y K t v:=h.kept (Kp.refl _ _) (fun k hk hx hy=>hx (hXY k hk hy)) (l_)
theorem VT.int (h:VT w X K .num v):∃ n,v=i_ n:=by cases h;exact ⟨_,rfl⟩
theorem VT.bool (h:VT w X K .tru v):∃ x,v=.bool x:=by cases h;exact ⟨_,rfl⟩
theorem VT.str (h:VT w X K .txt v):∃ x,v=.string x:=by cases h;exact ⟨_,rfl⟩
structure SlT (w:World) (X:NP) (K:Nat) (e:List CT) (A:OA) (n c:Nat):Prop where
 le:n<=K
 cap:n<=c
 max:c<=9223372036854775807
 nul:A=none->n=0/\c=0
 at_:∀ ad,A=some ad->∃ g o,ad=(f_ g o)/\g<w/\¬X g/\∃ f:Nat->Nat->Value,(∀ k j t,k<n->e[j]?=some t->w.cell? ⟨g,o+(k*e.length+j),none⟩=some (f k j))/\(∀ k j t,k<n->e[j]?=some t->VT w X K t (f k j))
theorem VT.slice {e:List CT} (h:VT w X K (.sl e) v):∃ A n c,v=.slice A n c/\SlT w X K e A n c:=by
 cases h with
 | nil=>exact ⟨none,0,0,rfl,Nat.zero_le _,l_,o_,fun _=>⟨rfl,rfl⟩,fun _ h=>by cases h⟩
 | sl _ g o n c f hg hX hn hc hm hf ht=>exact ⟨_,n,c,rfl,hn,hc,hm,x_,(fun ad h=>by injection h with h;exact ⟨g,o,h.symm,hg,hX,f,hf,ht⟩)⟩
theorem SlT.vt {e:List CT} {A:OA} {n c:Nat} (h:SlT w X K e A n c):VT w X K (.sl e) (.slice A n c):=by
 cases A with
 | none=>obtain ⟨rfl,rfl⟩:=h.nul rfl;exact .nil e
 | some ad =>
  obtain ⟨g,o,rfl,hg,hX,f,hf,ht⟩:=h.at_ _ rfl;exact .sl e g o n c f hg hX h.le h.cap h.max hf ht
theorem SlT.up {e:List CT} {A:OA} {n c:Nat} (h:SlT w X K e A n c) (hk:Kp X w w') (hK:K<=K'):SlT w' X K' e A n c:=by
 obtain ⟨A',n',c',e',h'⟩:=(h.vt.up hk hK).slice;exact ud_
theorem SlT.kept {e:List CT} {A:OA} {n c:Nat} (h:SlT w X K e A n c) (hk:Kp X w w') (hXY:∀ k,k<w.heap.size->¬X k->¬Y k) (hK:K<=K'):SlT w' Y K' e A n c:=by
 obtain ⟨A',n',c',e',h'⟩:=(h.vt.kept hk hXY hK).slice;exact ud_
theorem SlT.el {e:List CT} {A:OA} {n c k:Nat} (h:SlT w X K e A n c) (hk:k<n):∃ g o,A=some (f_ g o)/\g<w/\¬X g/\∃ f:Nat->Value,(∀ j t,e[j]?=some t->w.cell? ⟨g,o+(k*e.length+j),none⟩=some (f j))/\(∀ j t,e[j]?=some t->VT w X K t (f j)):=by
 cases A with
 | none=>have:=(h.nul rfl).1;omega
 | some ad =>
  obtain ⟨g,o,rfl,hg,hX,f,hf,ht⟩:=h.at_ _ rfl;exact ⟨g,o,rfl,hg,hX,f k,fun j t hj=>hf k j t hk hj,fun j t hj=>ht k j t hk hj⟩
def VTs (w:World) (X:NP) (K:Nat) (ts:List CT) (vs:VL):Prop:=vs.length=ts.length/\∀ (j:Nat) (t:CT),ts[j]?=some t->∃ u,vs[j]?=some u/\VT w X K t u
theorem VTs.kept {ts:List CT} {vs:VL} (h:VTs w X K ts vs) (hk:Kp X w w') (hXY:∀ k,k<w.heap.size->¬X k->¬Y k) (hK:K<=K'):VTs w' Y K' ts vs:=⟨h.1,fun j t hj=>by obtain ⟨u,hu,hv⟩:=h.2 j t hj;exact ⟨u,hu,hv.kept hk hXY hK⟩⟩
theorem VTs.up {ts:List CT} {vs:VL} (h:VTs w X K ts vs) (hk:Kp X w w') (hK:K<=K'):VTs w' X K' ts vs:=h.kept hk (fun _ _ h=>h) hK
theorem VTs.less {ts:List CT} {vs:VL} (h:VTs w X K ts vs) (hXY:∀ k,k<w.heap.size->Y k->X k):VTs w Y K ts vs:=⟨h.1,fun j t hj=>by obtain ⟨u,hu,hv⟩:=h.2 j t hj;exact ⟨u,hu,hv.less hXY⟩⟩
theorem VTs.nil:VTs w X K [] []:=⟨rfl,fun j t h=>by simp at h⟩
theorem VTs.cons {ts:List CT} {vs:VL} (h:VT w X K t v) (hs:VTs w X K ts vs):VTs w X K (t :: ts) (v :: vs):=⟨by simp [hs.1],fun j u hj=>by
 match j,hj with
 | 0,hj=>simp at hj;subst hj;exact ⟨v,rfl,h⟩
 | j+1,hj=>exact hs.2 j u (by simpa using hj)⟩
theorem VTs.head {ts:List CT} {vs:VL} (h:VTs w X K (t :: ts) vs):∃ v us,vs=v :: us/\VT w X K t v/\VTs w X K ts us:=by
 cases vs with
 | nil=>have:=h.1;simp at this
 | cons v us =>
  obtain ⟨u,hu,hv⟩:=h.2 0 t rfl;simp at hu;subst hu;exact ⟨v,us,rfl,hv,by have:=h.1;simpa using this,fun j s hj=>h.2 (j+1) s hj⟩
theorem VTs.end {vs:VL} (h:VTs w X K [] vs):vs=[]:=List.eq_nil_of_length_eq_zero h.1
theorem VT.one (h:VT w X K t v):v.oneCell'=true:=by cases h <;> first | assumption | rfl
theorem VTs.one {ts:List CT} {vs:VL} (h:VTs w X K ts vs):∀ u ∈ vs,u.oneCell'=true:=fun u hu=>by
 obtain ⟨j,hj⟩:=List.getElem?_of_mem hu;have hl:=(e_ hj).1;obtain ⟨u',A0,hv⟩:=h.2 j _ (ge_ (by rw [<-h.1];exact hl));rw [hj] at A0;injection A0 with A0;subst A0;exact hv.one
theorem VTs.set {ts:List CT} {vs:VL} (h:VTs w X K ts vs) {j:Nat} (hj:ts[j]?=some t) (hv:VT w X K t v):VTs w X K ts (vs.set j v):=⟨by simp [h.1],fun i s hi=>by
 by_cases hij:j=i
 ·subst hij
  rw [hj] at hi;injection hi with hi;subst hi
  obtain ⟨u,hu,_⟩:=h.2 j t hj
  exact ⟨v,by rw [gs_,if_pos rfl,if_pos (e_ hu).1],hv⟩
 obtain ⟨u,hu,A0⟩:=h.2 i s hi
 exact ⟨u,by rw [gs_,if_neg hij];exact hu,A0⟩⟩
def MT (w:World) (X:NP) (K:Nat) (g o:Nat) (ts:List CT):Prop:=∃ vs,VTs w X K ts vs/\∀ (j:Nat) (u:Value),vs[j]?=some u->w.cell? ⟨g,o+j,none⟩=some u
theorem SlT.mt {e:List CT} {A:OA} {n c k:Nat} (h:SlT w X K e A n c) (hk:k<n):∃ g o,A=some (f_ g o)/\g<w/\¬X g/\MT w X K g (o+k*e.length) e:=by
 obtain ⟨g,o,hA,hg,hX,f,hf,ht⟩:=h.el hk;refine ⟨g,o,hA,hg,hX,(List.range e.length).map f,⟨zk_,fun j t hj=>⟨f j,?_,ht j t hj⟩⟩,fun j u hu=>?_⟩
 ·have:j<e.length:=(e_ hj).1;simp [this]
 have hj:j<e.length:=by have:=(e_ hu).1;simpa using this
 simp [hj] at hu;subst hu;rw [Nat.add_assoc];exact hf j _ (ge_ hj)
theorem SlT.da_ {base:Nat} {et:TypeId} {e:List CT} {A:OA} {n c:Nat} {xs:VL} (ho:w.ownsRow base et e.length (.slice A n c) n xs) (hb:∀ k,X k->k<base) (hn:n<=K)
  (hx:∀ k j t,k<n->e[j]?=some t->∃ u,xs[k*e.length+j]?=some u/\VT w X K t u):SlT w X K e A n c:=by
 refine ⟨hn,(ck_ ho).1,own_cap ho,fun hA=>?_,fun ad hA=>?_⟩
 ·have h1:=(own_src ho).1 hA;exact ⟨h1,(ck_ ho).2 hA⟩
 subst hA;have A0:=(own_src ho).2 ad rfl;rcases ho.2 with ⟨h',_⟩ | ⟨g,cap,cur,h',hbg,hg,_⟩
 ·cases h'
 injection h' with h1 _ _;injection h1 with h1;subst h1;refine ⟨g,0,rfl,?_,fun A1=>by have:=hb g A1;omega,fun k j=>xs.getD (k*e.length+j) undef,fun k j t hk hj=>?_,fun k j t hk hj=>?_⟩
 ·rcases Nat.lt_or_ge g w with h2 | h2
  ·exact h2
  rw [Array.getElem?_eq_none h2] at hg;cases hg
 ·obtain ⟨u,hu,_⟩:=hx k j t hk hj;have:=A0 _ u hu;rw [Addr.add_lit] at this;show _=some (xs.getD (k*e.length+j) undef)
  rw [this,List.getD_eq_getElem?_getD,hu];rfl
 obtain ⟨u,hu,hv⟩:=hx k j t hk hj;show VT w X K t (xs.getD (k*e.length+j) undef)
 rw [List.getD_eq_getElem?_getD,hu];exact hv
end
end Go.Proofs.YtfolidlmgfhkiaaGreat
namespace Go.Proofs.YtfolidlmgfhkiaaGreat
open Go.RowKit Go.Proofs.Tryz
structure Hp (w:World) (B:Nat) (A:OA) (n:Nat) (l:List Ob):Prop where
 sl:Sl w B 2 Ob.cells A n l
 obs:∀ o ∈ l,Sl w B 2 Val.cells o.A o.n o.s/\o.n<=8796093021952
section
variable {w w':World} {B B' n:Nat} {A:OA} {l:List Ob}
theorem Hp.below (h:Hp w B A n l) (hb:Below B w w'):Hp w' B A n l:=⟨h.sl.below hb,fun o ho=>⟨(h.obs o ho).1.below hb,(h.obs o ho).2⟩⟩
theorem Hp.mono (h:Hp w B A n l) (hB:B<=B'):Hp w B' A n l:=⟨h.sl.mono hB,fun o ho=>⟨(h.obs o ho).1.mono hB,(h.obs o ho).2⟩⟩
theorem Hp.up (h:Hp w w A n l) (hb:Below w w w'):Hp w' w' A n l:=(h.below hb).mono hb.size
end
theorem index_any (A:OA) (n c:Nat) (l:List Ob) (id:Int) (w:World) (hs:Sl w w 2 Ob.cells A n l) (hn:n<=9000000000000) :
  Calls prog 149 #[.agg #[.slice A n c],i_ id] w fun e w'=>e=.returned (i_ (idxI id (l.map Ob.po)))/\Below w w w':=by
 have HL:=q_ hs.len;go_enter func149,ntmps149;go_wp2;go_step3;go_wp2;go_step3;go_wp2;go_loopw [5,11] (fun f i wr=>∃ k:Nat,k<=n/\f=i_ (-1)/\i=i_ k/\Hid (∀ (i:Nat) (x:Ob),i<k->l[i]?=some x->x.id≠id)/\Below w w wr) (fun _ i _=>n - (intOf i).toNat)
 case atStart=>exact ⟨0,Nat.zero_le _,rfl,rfl,q_ (fun i x h=>absurd h o_),(bel (b_))⟩
 obtain ⟨k,hk,rfl,rfl,A1,hb⟩:=hrel;have A3:=hb.size;by_cases hlt:k<n
 ·obtain ⟨ab,ao,rfl,A2,A0⟩:=hs.at_ o_;obtain ⟨x,hx⟩:∃ x,l[k]?=some x:=⟨_,ge_ yr_⟩;have c0:wr.cell? ⟨ab,ao+k*2,none⟩=some (i_ x.id):=(belc hb A2).trans (A0 k x hx 0 _ rfl);have c1:wr.cell? ⟨ab,ao+k*2+1,none⟩=some (.slice x.A x.n x.c):=(belc hb A2).trans (A0 k x hx 1 _ rfl);have HX:=q_ hx;clear A0 hx;by_cases he:x.id=id
  ·have HE:=q_ (show idxI id (l.map Ob.po)=k from by
    rw [idxI,idx_some (po_at HX.o) he (fun j y hj hy=>by obtain ⟨z,hz,rfl⟩:=po_at' hy;exact A1.o j z hj hz)])
   go_wp2;rw [Exit.noGoto_ret];go_ret;exact ⟨by rw [HE.o];rfl,(bel hb)⟩
  go_wp2;go_roundw
  case rel =>
   refine ⟨k+1,o_,rfl,za_,q_ (fun i y hi hy=>?_),(bel hb)⟩;by_cases hik:i=k
   ·subst hik;rw [HX.o] at hy;injection hy with hy;subst hy;exact he
   exact A1.o i y o_ hy
  case measure=>exact me_
 obtain rfl:k=n:=by omega
 have HE:=q_ (show idxI id (l.map Ob.po)=-1 from by
  rw [idxI,idx_none (fun j y hy=>by
   obtain ⟨z,hz,rfl⟩:=po_at' hy
   exact A1.o j z (by have:=(e_ hz).1;rw [HL.o] at this;exact this) hz)])
 go_wp2;rw [Exit.noGoto_ret];go_ret;exact ⟨by rw [HE.o];rfl,hb⟩
theorem refat_any (A:OA) (n c:Nat) (l:List Ob) (id:Int) (w:World) (hs:Sl w w 2 Ob.cells A n l) (hn:n<=9000000000000) :
  Calls prog 57 #[.agg #[.slice A n c],i_ id] w fun e w'=>e=.returned (i_ (idxI id (l.map Ob.po)))/\Below w w w':=by
 have HL:=q_ hs.len;go_enter func57,ntmps57;go_wp2_with fail;go_loopw [10] (fun i wr=>∃ k:Nat,k<=n/\i=i_ k/\Hid (∀ (i:Nat) (x:Ob),i<k->l[i]?=some x->x.id≠id)/\Below w w wr) (fun i _=>n - (intOf i).toNat)
 case atStart=>exact ⟨0,Nat.zero_le _,rfl,q_ (fun i x h=>absurd h o_),(bel (b_))⟩
 obtain ⟨k,hk,rfl,A1,hb⟩:=hrel;have A3:=hb.size;by_cases hlt:k<n
 ·obtain ⟨ab,ao,rfl,A2,A0⟩:=hs.at_ o_;obtain ⟨x,hx⟩:∃ x,l[k]?=some x:=⟨_,ge_ yr_⟩;have c0:wr.cell? ⟨ab,ao+k*2,none⟩=some (i_ x.id):=(belc hb A2).trans (A0 k x hx 0 _ rfl);have c1:wr.cell? ⟨ab,ao+k*2+1,none⟩=some (.slice x.A x.n x.c):=(belc hb A2).trans (A0 k x hx 1 _ rfl);have HX:=q_ hx;clear A0 hx;by_cases he:x.id=id
  ·have HE:=q_ (show idxI id (l.map Ob.po)=k from by
    rw [idxI,idx_some (po_at HX.o) he (fun j y hj hy=>by obtain ⟨z,hz,rfl⟩:=po_at' hy;exact A1.o j z hj hz)])
   go_wp2;go_ret;exact ⟨by rw [HE.o];rfl,(bel hb)⟩
  go_wp2;go_roundw
  case rel =>
   refine ⟨k+1,o_,za_,q_ (fun i y hi hy=>?_),(bel hb)⟩;by_cases hik:i=k
   ·subst hik;rw [HX.o] at hy;injection hy with hy;subst hy;exact he
   exact A1.o i y o_ hy
  case measure=>exact me_
 obtain rfl:k=n:=by omega
 have HE:=q_ (show idxI id (l.map Ob.po)=-1 from by
  rw [idxI,idx_none (fun j y hy=>by
   obtain ⟨z,hz,rfl⟩:=po_at' hy
   exact A1.o j z (by have:=(e_ hz).1;rw [HL.o] at this;exact this) hz)])
 go_wp2;go_ret;exact ⟨by rw [HE.o];rfl,hb⟩
def byteCells (x:Int):VL:=[.int .u8 x]
def Dice (w:World) (d:Nat):Prop:=d<w/\∃ S sn sc,∃ a:Nat,w.cell? (a_ d)=some (.slice S sn sc)/\w.cell? (f_ d 1)=some (i_ a)/\w.frozen? (f_ d 1)=false/\a<=sn/\sn<=200 ∧
 (∀ i,i<sn->∃ sb so x,S=some (f_ sb so)/\sb<d/\0<=x/\x<=255/\w.cell? ⟨sb,so+i,none⟩=some (.int .u8 x))
theorem Dice.below {w w':World} {d:Nat} (h:Dice w d) (hb:Below w w w'):Dice w' d:=by
 obtain ⟨hd,S,sn,sc,a,h0,h1,h2,h3,h4,h5⟩:=h;refine ⟨by have:=hb.size;omega,S,sn,sc,a,(belc hb hd).trans h0,(belc hb hd).trans h1,(belf hb hd).trans h2,h3,h4,fun i hi=>?_⟩;obtain ⟨sb,so,x,e,A0,h6,h7,h8⟩:=h5 i hi;exact ⟨sb,so,x,e,A0,h6,h7,(belc hb o_).trans h8⟩
theorem Dice.set {w:World} {d:Nat} (h:Dice w d) {p:Addr} (hp:d<p.block) (u:Value):Dice (w.setCell p u) d:=by
 obtain ⟨hd,S,sn,sc,a,h0,h1,h2,h3,h4,h5⟩:=h;have ne:∀ b o,b<=d->(w.setCell p u).cell? (f_ b o)=w.cell? (f_ b o):=fun b o hb=>World.cell?_setCell_other w p _ _ (fun e=>by rw [e] at hp;have:d<b:=hp;omega)
 refine ⟨by simpa using hd,S,sn,sc,a,(ne _ _ (l_)).trans h0,(ne _ _ (l_)).trans h1,by rw [World.frozen?_setCell];exact h2,h3,h4,fun i hi=>?_⟩;obtain ⟨sb,so,x,e,A0,h6,h7,h8⟩:=h5 i hi;exact ⟨sb,so,x,e,A0,h6,h7,(ne _ _ o_).trans h8⟩
theorem Dice.lt {w:World} {d:Nat} (h:Dice w d):d<w:=h.1
structure ct_ (w:World) (d:Nat) (w':World):Prop where
 dice:Dice w' d
 grown:w.grownBy w' (some d)
theorem ct_.cell {w w':World} {d:Nat} (h:ct_ w d w') {b o:Nat} (hb:b<w) (hne:b≠d):w'.cell? (f_ b o)=w.cell? (f_ b o):=(gcell h.grown).1 b o hb (fun e=>hne (by injection e))
theorem ct_.frozen {w w':World} {d:Nat} (h:ct_ w d w') {b o:Nat} (hb:b<w) (hne:b≠d):w'.frozen? (f_ b o)=w.frozen? (f_ b o):=(gcell h.grown).2 b o hb (fun e=>hne (by injection e))
theorem ct_.size {w w':World} {d:Nat} (h:ct_ w d w'):(w:Nat)<=w':=h.grown.size
theorem ct_.of_below {w w':World} {d:Nat} (h:Dice w d) (hb:Below w w w'):ct_ w d w':=⟨h.below hb,cf_ hb _⟩
theorem thrown_at {w:World} {d sn sc a:Nat} {S:OA} (hd:d<w) (h0:w.cell? (a_ d)=some (.slice S sn sc)) (h1:w.cell? (f_ d 1)=some (i_ a)) (h2:w.frozen? (f_ d 1)=false) (h3:a<sn) (h4:sn<=200)
  (h5:∀ i,i<sn->∃ sb so x,S=some (f_ sb so)/\sb<d/\0<=x/\x<=255/\w.cell? ⟨sb,so+i,none⟩=some (.int .u8 x)) (i j:Nat) :
  ct_ w d (((w.drewN i).setCell (f_ d 1) (i_ (a+1))).drewN j):=by
 have hc:∀ q,(((w.drewN i).setCell (f_ d 1) (i_ (a+1))).drewN j).cell? q=(w.setCell (f_ d 1) (i_ (a+1))).cell? q:=fun q=>rfl
 have hz:(((w.drewN i).setCell (f_ d 1) (i_ (a+1))).drewN j).heap.size=w:=by show (w.setCell _ _).heap.size=_;simp
 refine ⟨⟨by rw [hz];exact hd,S,sn,sc,a+1,?_,?_,?_,h3,h4,fun k hk=>?_⟩,?_⟩
 ·rw [hc,bk_ _ _ _ _ zp_];exact h0
 ·rw [hc,World.cell?_setCell_same _ _ _ h1];rfl
 ·show (w.setCell _ _).frozen? _=false;rw [World.frozen?_setCell];exact h2
 ·obtain ⟨sb,so,x,e,h6,h7,h8,h9⟩:=h5 k hk;refine ⟨sb,so,x,e,h6,h7,h8,?_⟩;rw [hc,bk_ _ _ _ _ zp_];exact h9
 exact ⟨rfl,rfl,rfl,by rw [hz];exact l_,fun k hk A0=>Below.heap_setCell w (f_ d 1) _ k (fun e=>A0 xy_)⟩
structure Lv {α:Type} (w:World) (d sz:Nat) (cells:α->VL) (A:OA) (n:Nat) (l:List α):Prop where
 sl:Sl w w sz cells A n l
 hi:0<n->∀ ad,A=some ad->ad.block≠d
theorem bf_ (d n:Nat) (w:World) (hD:Dice w d) (h1:1<=n) (hn:n<=1000000) :
  Calls prog 26 #[.pointer (some (a_ d)),i_ n] w fun e w'=>∃ r:Nat,r<n/\e=.returned (i_ r)/\ct_ w d w'/\(w':Nat)=w:=by
 have HD:=q_ hD;obtain ⟨hd,S,sn,sc,a,c0,c1,f1,ha,A0,hs⟩:=hD;by_cases hlt:a<sn
 ·obtain ⟨sb,so,x,rfl,A1,A2,A3,hx⟩:=hs a hlt;have hne:¬sb=d:=by omega
  have HS:=q_ hs;clear hs;go_enter func26,ntmps26;go_wp2;go_quiet (fail);go_wp2;go_quiet (fail);go_wp2;go_ret;obtain ⟨r,hr⟩:∃ r:Nat,x % n=r:=⟨(x % n).toNat,by have:=Int.emod_nonneg x (show (n:Int)≠0 by omega);omega⟩;refine ⟨r,by have:=Int.emod_lt_of_pos x (show (0:Int)<n by omega);omega,by rw [hr];rfl,thrown_at hd c0 c1 f1 hlt A0 HS.o _ _,?_⟩;show (w.setCell _ _).heap.size=_
  simp
 go_enter func26,ntmps26;go_wp2;go_quiet (fail);go_wp2;go_ret;exact ⟨0,h1,rfl,.of_below HD.o (bel (b_)),rfl⟩
theorem new_dice (A:OA) (n c:Nat) (l:List Int) (w:World) (hs:Sl w w 1 byteCells A n l) (hl:∀ (i:Nat) (x:Int),l[i]?=some x->0<=x/\x<=255) (hnc:n<=c) (hn:n<=9223372036854775807) (hc:c<=9223372036854775807) :
  Calls prog 10 #[.slice A n c] w fun e w'=>∃ d,e=.returned (pt d)/\Dice w' d/\w<=d/\Below w w w':=by
 have HL:=q_ hl;have HS:=q_ hs;clear hl hs;have A0:∀ (m:Nat) (o:Obj),m<=n->∀ i,i<m->∃ sb so x,A=some (f_ sb so)/\sb<w/\0<=x/\x<=255/\(w.alloc o).cell? ⟨sb,so+i,none⟩=some (.int .u8 x):=fun m o hm i hi=>by
  obtain ⟨ab,ao,rfl,A2,A3⟩:=HS.o.at_ o_;obtain ⟨x,hx⟩:∃ x,l[i]?=some x:=⟨_,ge_ (by rw [HS.o.len];omega)⟩;have h:=A3 i x hx 0 _ rfl;simp only [Nat.mul_one,Nat.add_zero] at h;exact ⟨ab,ao,x,rfl,A2,(HL.o i x hx).1,(HL.o i x hx).2,(ak_ _ _ _ _ A2).trans h⟩
 have A1:=q_ A0;clear A0;by_cases h200:200<n
 ·go_enter func10,ntmps10;go_wp2_with go_in;go_ret;refine ⟨w,rfl,⟨zk_,A,200,c,0,zk_,zk_,zk_,o_,o_,A1.o 200 _ o_⟩,l_,(bel (b_))⟩
 go_enter func10,ntmps10;go_wp2_with go_in;go_ret;refine ⟨w,rfl,⟨zk_,A,n,c,0,zk_,zk_,zk_,o_,o_,A1.o n _ o_⟩,l_,(bel (b_))⟩
namespace CloneObj
theorem infoE:(prog.info? 90).map (fun i=>(i.zero,i.size,i.bytes))=some (some (.agg #[i_ 0,.slice none 0 0]),2,32):=by kernel_rfl
theorem any (A:OA) (n c:Nat) (xs:VL) (w:World) (hA:A=none->n=0) (hsrc:∀ ad,A=some ad->∀ (j:Nat) (u:Value),xs[j]?=some u->w.cell? (ad.add j)=some u)
  (hl:xs.length=n*2) (hn:n<=4398046510976) (h1:∀ u ∈ xs,u.oneCell'=true) :
  Calls prog 150 #[.slice A n c] w fun e w'=>∃ A' c',e=.returned (.slice A' n c')/\w'.ownsRow w 90 2 (.slice A' n c') n xs/\Below w w w':=by
 obtain ⟨i0,hi,A5,A6,A7⟩:=info_parts infoE;have HL:=q_ hl;clear hl;cases A with
 | none =>
  obtain rfl:=hA rfl;obtain rfl:xs=[]:=List.eq_nil_of_length_eq_zero (by simpa using HL.o);have A2:=fun (w:World)=>Lib.run_eql_slice_nil (P:=prog) w 33 90 none 0 c 0 0 underlying33
  go_enter func150,ntmps150;exact te_
 | some ad =>
  have HS:=q_ (hsrc ad rfl);clear hsrc hA;have A3:∀ (j:Nat) (u:Value),xs[j]?=some u->(w.alloc (.cells #[] 90)).cell? (ad.add j)=some u:=fun j u hu=>by
   exact up_
  have A4:=q_ A3;clear A3;have A2:=fun (w:World)=>Lib.run_eql_slice_nil (P:=prog) w 33 90 (some ad) n c 0 0 underlying33
  go_enter func150,ntmps150;go_wp2_with (at_builtin;refine wpList_append_own _ rfl _ _ 33 rfl w 90 i0 _ 2 32 underlying33 hi A5 A6 A7 rfl d_ _ _ _ rfl (World.ownsRow_made w #[] 0 (l_) m_ rfl) ad n c xs rfl HL.o A4.o h1 m_ o_ t_ ?_;intro v' w1 A0 A1 _);go_ret;have hz:=A1.size;rw [Nat.zero_add,List.nil_append] at A0;have hb:Below w w w1:=((b_).alloc (l_) _).grown A1 t_ (fun k hk=>by injection hk with hk;subst hk;exact l_);rcases A0.2 with ⟨rfl,h0⟩ | ⟨g,cap,cur,rfl,_⟩
  ·subst h0;exact ⟨none,0,rfl,A0,hb⟩
  exact ⟨_,_,rfl,A0,hb⟩
end CloneObj
namespace CloneVal
theorem infoE:(prog.info? 38).map (fun i=>(i.zero,i.size,i.bytes))=some (some (.agg #[.bool false,i_ 0]),2,16):=by kernel_rfl
theorem any (A:OA) (n c:Nat) (xs:VL) (w:World) (hA:A=none->n=0) (hsrc:∀ ad,A=some ad->∀ (j:Nat) (u:Value),xs[j]?=some u->w.cell? (ad.add j)=some u)
  (hl:xs.length=n*2) (hn:n<=8796093021952) (h1:∀ u ∈ xs,u.oneCell'=true) :
  Calls prog 151 #[.slice A n c] w fun e w'=>∃ A' c',e=.returned (.slice A' n c')/\w'.ownsRow w 38 2 (.slice A' n c') n xs/\Below w w w':=by
 obtain ⟨i0,hi,A5,A6,A7⟩:=info_parts infoE;have HL:=q_ hl;clear hl;cases A with
 | none =>
  obtain rfl:=hA rfl;obtain rfl:xs=[]:=List.eq_nil_of_length_eq_zero (by simpa using HL.o);have A2:=fun (w:World)=>Lib.run_eql_slice_nil (P:=prog) w 88 38 none 0 c 0 0 underlying88
  go_enter func151,ntmps151;exact te_
 | some ad =>
  have HS:=q_ (hsrc ad rfl);clear hsrc hA;have A3:∀ (j:Nat) (u:Value),xs[j]?=some u->(w.alloc (.cells #[] 38)).cell? (ad.add j)=some u:=fun j u hu=>by
   exact up_
  have A4:=q_ A3;clear A3;have A2:=fun (w:World)=>Lib.run_eql_slice_nil (P:=prog) w 88 38 (some ad) n c 0 0 underlying88
  go_enter func151,ntmps151;go_wp2_with (at_builtin;refine wpList_append_own _ rfl _ _ 88 rfl w 38 i0 _ 2 16 underlying88 hi A5 A6 A7 rfl d_ _ _ _ rfl (World.ownsRow_made w #[] 0 (l_) m_ rfl) ad n c xs rfl HL.o A4.o h1 m_ o_ t_ ?_;intro v' w1 A0 A1 _);go_ret;have hz:=A1.size;rw [Nat.zero_add,List.nil_append] at A0;have hb:Below w w w1:=((b_).alloc (l_) _).grown A1 t_ (fun k hk=>by injection hk with hk;subst hk;exact l_);rcases A0.2 with ⟨rfl,h0⟩ | ⟨g,cap,cur,rfl,_⟩
  ·subst h0;exact ⟨none,0,rfl,A0,hb⟩
  exact ⟨_,_,rfl,A0,hb⟩
end CloneVal
theorem tmod_facts (v:Int) (n:Nat) (h:1<=n):(v.tmod n<0->v.tmod n+n=v % n)/\(¬v.tmod n<0->v.tmod n=v % n):=by
 have hp:(0:Int)<n:=by omega
 have h1:=Int.tmod_lt_of_pos v hp;have h2:=Int.lt_tmod_of_pos v hp;have hd:=Int.tmod_def v n;have he:v % n=(v.tmod n) % n:=by
  have h3:v=v.tmod n+n*v.tdiv n:=by omega
  conv=>lhs;rw [h3]
  rw [Int.add_mul_emod_self_left]
 refine ⟨fun h0=>?_,fun h0=>?_⟩
 ·rw [he,<-Int.add_emod_right,Int.emod_eq_of_lt o_ o_]
 rw [he,Int.emod_eq_of_lt o_ o_]
theorem mod_any (v:Int) (n:Nat) (w:World) (h0:1<=n) (h1:n<=1000000) (hv:-9223372036854775808<=v/\v<=9223372036854775807) :
  Calls prog 12 #[i_ v,i_ n] w fun e w'=>∃ r:Nat,r<n/\(r:Int)=v % n/\e=.returned (i_ r)/\Below w w w':=by
 have hp:(0:Int)<n:=by omega
 obtain ⟨r,hr⟩:∃ r:Nat,v % n=r:=⟨(v % n).toNat,by have:=Int.emod_nonneg v (show (n:Int)≠0 by omega);omega⟩;have e1:=Int.emod_lt_of_pos v hp;obtain ⟨t1,t2⟩:=tmod_facts v n h0;have A1:=q_ t1;have A2:=q_ t2;have HV:=q_ hv;have HR:=q_ hr;have b1:=Int.tmod_lt_of_pos v hp;have b2:=Int.lt_tmod_of_pos v hp;have A0:r<n:=by omega
 clear t1 t2 hv e1 hr;by_cases hn:v.tmod n<0
 ·go_enter func12,ntmps12;go_wp2;go_ret;exact ⟨r,A0,HR.o.symm,by rw [<-HR.o,<-A1.o hn];rfl,b_⟩
 go_enter func12,ntmps12;go_wp2;go_ret;exact ⟨r,A0,HR.o.symm,by rw [<-HR.o,<-A2.o hn];rfl,b_⟩
end Go.Proofs.YtfolidlmgfhkiaaGreat
namespace Go.Proofs.YtfolidlmgfhkiaaGreat
open Go.ChangeShapes Go.WideShapes Go.ChangeAt Go.RowKit Go.Deep
theorem Tryz.own:ownKnob Tryz.prog.godebug=none:=by kernel_rfl
theorem Tryz.laidOut:laidOutB Tryz.prog=true:=by kernel_rfl
section
variable {H:Type} {enc:TypeId × Value->H} {P:Program} {W W':World}
theorem trodAll_below (hl:laidOutB P=true) (hb:Below W W W'):∀ (ts:List TypeId) (vs:VL) (ds:List (DataW H)) (ps:List MemPlace),
  (∀ t ∈ ts,P.readableRec t=true/\t<P.types.size)->DataW.TrodAll enc P W 0 (fun _=>true) true ts vs ds ps->(∀ x ∈ ps,x.block<W) →
  DataW.TrodAll enc P W' 0 (fun b=>decide (b<W)) true ts vs ds ps
 | [],[],[],_,_,h,_=>h
 | t :: ts,v :: vs,d :: ds,ps,hr,h,hlt=>by
  obtain ⟨p,q,h1,h2,rfl⟩:=h;have A0:=hr t t_;exact ⟨p,q,Below.trod hl A0.1 A0.2 h1 hb (fun x hx=>hlt x (List.mem_append_left _ hx)),
   trodAll_below hl hb ts vs ds q (fun t ht=>hr t (by simp [ht])) h2 (fun x hx=>hlt x (List.mem_append_right _ hx)),rfl⟩
 | [],_ :: _,_,_,_,h,_=>h.elim
 | [],[],_ :: _,_,_,h,_=>h.elim
 | _ :: _,[],_,_,_,h,_=>h.elim
 | _ :: _,_ :: _,[],_,_,h,_=>h.elim
theorem law_post {fn:Func} {s:ChangeSpec} {args:Array Value} {ds:List (DataW H)} {before:List MemPlace} {tb:TypeId}
  (hl:laidOutB P=true) (hread:∀ t ∈ fn.params.toList,P.readableRec t=true/\t<P.types.size)
  (hW:DataW.Whole enc P fn.params.toList s.vars false W args.toList ds [] before) (hvars:s.vars=[])
  (hres:fn.resultTypes=#[tb]) (hub:P.underlying tb=some .bool)
  (hfn:s.fn H (ds ++ [])={ results:=[.lit (.bool true)],args:=ds }) (hb:Below W W W') :
  s.post enc P fn false true false false W args (.bool true) W':=by
 have A0:=hW;obtain ⟨p,q,hA,hV,rfl,_,_⟩:=hW;have A1:=A0.lt;rw [hvars] at hV;obtain ⟨_,rfl⟩:=trodVars_none hV;refine ⟨ds,[],_,[],p,[],A0,?_,?_,?_,hb.frame _,fun h=>by cases h⟩
 ·rw [hfn,hres];exact trodAll_mk1 (shut_bool hub true)
 ·rw [hfn];exact trodAll_below hl hb _ _ _ _ hread hA (fun x hx=>A1 x (List.mem_append_left _ hx))
 rw [hfn,hvars];rfl
theorem open_sl {α:Type} {cells:α->VL} {sz:Nat} {Ok:α->Prop} {t e:TypeId} {v:Value} {d:DataW H} {p:List MemPlace} {b0:Nat} (ht:P.underlying t=some (.slice e)) (hC:P.cellsOf e=sz) (hs:0<sz)
  (hval:Value.okWide P W .any b0 t v) (h:DataW.Trod enc P W 0 (fun _=>true) true t v d p)
  (hel:∀ n cs y,cs.length=sz->DataW.trod enc P W 0 (fun _=>true) true n e cs=some y->∃ x:α,cs=cells x/\Ok x) :
  ∃ A n c l,v=.slice A n c/\n<=c/\c<=9223372036854775807/\Sl W W sz cells A n l/\∀ x ∈ l,Ok x:=by
 obtain ⟨A,n,c,rfl⟩:=okWide_slice ht hval;obtain ⟨A5,hf⟩:=h;rcases open_slice ht hf with ⟨hcs,_⟩ | ⟨a,len,cap,m,k,D,Pl,hcs,_,hlc,hcm,hmm,_,hi⟩
 ·simp [Value.cells] at hcs;obtain ⟨rfl,rfl,rfl⟩:=hcs;exact ⟨none,0,0,[],rfl,l_,o_,Sl.nil,zk_⟩
 simp [Value.cells] at hcs;obtain ⟨rfl,rfl,rfl⟩:=hcs;simp only [if_true] at hmm;subst hmm;have Aa:∀ k',k'<=n->∃ l:List α,l.length=k'/\∀ (i:Nat) (x:α),l[i]?=some x->Ok x/\W.cells? 0 (a.add (i*sz)) sz=some (cells x):=by
  intro k'
  induction k' with
  | zero=>intro _;exact ⟨[],rfl,zk_⟩
  | succ k' ih =>
   intro Ag;obtain ⟨l,hl,A1⟩:=ih o_;obtain ⟨A4,h1,h2⟩:=hi k' o_;rw [hC] at h1;obtain ⟨_,A3,_⟩:=World.cells?_some h1;obtain ⟨x,rfl,Ad⟩:=hel k A4 _ A3 h2;refine ⟨l ++ [x],by simp [hl],fun i y hy=>?_⟩;by_cases hik:i<k'
   ·rw [List.getElem?_append_left o_] at hy;exact A1 i y hy
   have Ac:=(e_ hy).1;simp [hl] at Ac;obtain rfl:i=k':=by omega
   rw [List.getElem?_append_right o_,hl] at hy;simp at hy;subst hy;exact ⟨Ad,h1⟩
 obtain ⟨l,hl,A1⟩:=Aa n (l_);refine ⟨some a,_,_,l,rfl,hlc,by unfold maxLen at hcm;omega,⟨hl,fun hn=>?_⟩,fun x hx=>?_⟩
 ·have A0:∀ (i:Nat) (x:α),l[i]?=some x->∀ (j:Nat) (u:Value),(cells x)[j]?=some u->W.cell? ((a.add (i*sz)).add j)=some u:=fun i x hx j u hu=>by
   obtain ⟨_,h1⟩:=A1 i x hx;obtain ⟨_,A3,A7⟩:=World.cells?_some h1;have hj:=(e_ hu).1;rw [A7 j o_];exact hu
  have h0:0<l.length:=by omega
  obtain ⟨Ae,A8⟩:=A1 0 _ (ge_ h0);obtain ⟨_,A9,_⟩:=World.cells?_some A8;have hz:=A0 0 _ (ge_ h0) 0 _ (ge_ o_);have A6:(a.add (0*sz)).add 0=a:=by simp [Addr.add]
  rw [A6] at hz;obtain ⟨ab,ao,A2⟩:=a;have Af:A2=none:=by
   cases A2 with
   | none=>rfl
   | some _=>unfold World.cell? at hz;simp at hz;split at hz <;> simp at hz
  subst Af;refine ⟨ab,ao,rfl,World.block_lt_of_cell? W _ hz,fun i x hx j u hu=>?_⟩;have h:=A0 i x hx j u hu;rw [Addr.add_lit,Addr.add_lit] at h
  rwa [Nat.add_assoc] at h
 obtain ⟨i,Ab⟩:=List.getElem?_of_mem hx;exact (A1 i x Ab).1
theorem args_of {args:Array Value} {l:VL} (h:args.toList=l):args=l.toArray:=by rw [<-h]
theorem wf_i64 {n:Int} (h:(Lit.int .i64 n).wf=true):-9223372036854775808<=n/\n<=9223372036854775807:=by
 have h1:IntKind.i64.min=-9223372036854775808:=rfl;have h2:IntKind.i64.max=9223372036854775807:=rfl;simp only [Lit.wf,Bool.and_eq_true,decide_eq_true_eq] at h;omega
theorem wf_u8 {n:Int} (h:(Lit.int .u8 n).wf=true):0<=n/\n<=255:=by
 have h1:IntKind.u8.min=0:=rfl;have h2:IntKind.u8.max=255:=rfl;simp only [Lit.wf,Bool.and_eq_true,decide_eq_true_eq] at h;omega
end
end Go.Proofs.YtfolidlmgfhkiaaGreat
namespace Go.Proofs.YtfolidlmgfhkiaaGreat.Dl
open Go.RowKit
theorem nan_any (x : Int) (w : World) : Calls Tryz.prog 184 #[.int .i64 x] w fun e w' => e = .returned (.bool false) ∧ Below w.heap.size w w' := by
  go_enter Tryz.func184, Tryz.ntmps184
  go_wp2
  go_ret
  exact ⟨zk_, Below.refl _ _⟩
def cmpI (x y : Int) : Int := if x < y then -1 else if y < x then 1 else 0
theorem cmp_any (x y : Int) (w : World) : Calls Tryz.prog 157 #[.int .i64 x, .int .i64 y] w fun e w' => e = .returned (.int .i64 (cmpI x y)) ∧ Below w.heap.size w w' := by
  by_cases h1 : x < y
  · have HE := Lib.hid (show cmpI x y = -1 by simp [cmpI, h1])
    go_enter Tryz.func157, Tryz.ntmps157
    go_wp2_with fail
    refine (nan_any x _).mono ?_
    rintro e w1 ⟨rfl, hb1⟩
    go_wp2_with fail
    refine (nan_any y _).mono ?_
    rintro e w2 ⟨rfl, hb2⟩
    have hb := hb1.trans (hb2.mono hb1.size)
    go_wp2
    go_ret
    exact ⟨by rw [HE.out]; rfl, hb⟩
  · by_cases h2 : y < x
    · have HE := Lib.hid (show cmpI x y = 1 by simp [cmpI, h1, h2])
      go_enter Tryz.func157, Tryz.ntmps157
      go_wp2_with fail
      refine (nan_any x _).mono ?_
      rintro e w1 ⟨rfl, hb1⟩
      go_wp2_with fail
      refine (nan_any y _).mono ?_
      rintro e w2 ⟨rfl, hb2⟩
      have hb := hb1.trans (hb2.mono hb1.size)
      go_wp2
      go_ret
      exact ⟨by rw [HE.out]; rfl, hb⟩
    · have HE := Lib.hid (show cmpI x y = 0 by simp [cmpI, h1, h2])
      go_enter Tryz.func157, Tryz.ntmps157
      go_wp2_with fail
      refine (nan_any x _).mono ?_
      rintro e w1 ⟨rfl, hb1⟩
      go_wp2_with fail
      refine (nan_any y _).mono ?_
      rintro e w2 ⟨rfl, hb2⟩
      have hb := hb1.trans (hb2.mono hb1.size)
      go_wp2
      go_ret
      exact ⟨by rw [HE.out]; rfl, hb⟩
def orI (x y : Int) : Int := if x = 0 then y else x
theorem or_any (b : Nat) (x y : Int) (w : World) (hb : b < w.heap.size) (h0 : w.cell? ⟨b, 0, none⟩ = some (.int .i64 x)) (h1 : w.cell? ⟨b, 1, none⟩ = some (.int .i64 y)) :
    Calls Tryz.prog 156 #[.slice (some ⟨b, 0, none⟩) 2 2] w fun e w' => e = .returned (.int .i64 (orI x y)) ∧ Below w.heap.size w w' := by
  go_enter Tryz.func156, Tryz.ntmps156
  go_wp2_with fail
  go_loop [8] (fun i => ∃ k : Nat, k ≤ 2 ∧ i = .int .i64 k ∧ (1 ≤ k → x = 0) ∧ (2 ≤ k → y = 0)) (fun i => 2 - (intOf i).toNat)
  case atStart => exact ⟨0, by omega, rfl, by omega, by omega⟩
  case round =>
    obtain ⟨k, hk, rfl, hx, hy⟩ := hrel
    have HX := Lib.hid hx
    have HY := Lib.hid hy
    clear hx hy
    have hk3 : k = 0 \/ k = 1 \/ k = 2 := by omega
    rcases hk3 with rfl | rfl | rfl
    · by_cases hx0 : x = 0
      · have g : (x != 0) = false := by simpa using hx0
        have HX0 := Lib.hid hx0
        clear hx0
        go_wp2
        go_round
        case rel => exact ⟨1, by omega, by go_num, fun _ => HX0.out, by omega⟩
        case measure => simp [intOf]
      · have g : (x != 0) = true := by simpa using hx0
        have HO := Lib.hid (show orI x y = x by simp [orI, hx0])
        clear hx0
        go_wp2
        go_ret
        exact t4_
    · by_cases hy0 : y = 0
      · have g : (y != 0) = false := by simpa using hy0
        have HY0 := Lib.hid hy0
        clear hy0
        go_wp2
        go_round
        case rel => exact ⟨2, by omega, by go_num, fun _ => HX.out x4_, fun _ => HY0.out⟩
        case measure => simp [intOf]
      · have g : (y != 0) = true := by simpa using hy0
        have HO := Lib.hid (show orI x y = y by simp [orI, HX.out x4_])
        clear hy0
        go_wp2
        go_ret
        exact t4_
    · have HO := Lib.hid (show orI x y = 0 by simp [orI, HX.out x4_, HY.out x4_])
      go_wp2
      go_ret
      exact t4_
def cmpP (x : Pr) (a b : Int) : Int := orI (cmpI x.a a) (cmpI x.b b)
theorem compare_any (x : Pr) (a b k : Int) (w : World) : Calls Tryz.prog 104 #[.agg #[.int .i64 x.a, .int .i64 x.b, .int .i64 x.cnt], .agg #[.int .i64 a, .int .i64 b, .int .i64 k]] w fun e w' => e = .returned (.int .i64 (cmpP x a b)) ∧ Below w.heap.size w w' := by
  obtain ⟨W, hW⟩ : ∃ W, W = (w.alloc (.cells #[.int .i64 x.a, .int .i64 x.b, .int .i64 x.cnt] 85)).alloc (.cells #[.int .i64 a, .int .i64 b, .int .i64 k] 85) := ⟨_, rfl⟩
  have hbW : Below w.heap.size w W := by rw [hW]; exact (by repeat (first | (with_reducible exact (Below.refl _ _)) | (with_reducible refine Below.drew ?_) | (with_reducible refine below_drewN ?_ _) | (with_reducible refine Below.setCell ?_ ?_ _; rotate_left; (first | omega | (simp <;> omega))) | (with_reducible refine Below.alloc ?_ ?_ _; rotate_left; (first | omega | (simp <;> omega)))))
  have hz : W.heap.size = w.heap.size + 2 := by rw [hW]; simp
  have p0 : W.cell? ⟨w.heap.size, 0, none⟩ = some (.int .i64 x.a) := xm_
  have p1 : W.cell? ⟨w.heap.size, 1, none⟩ = some (.int .i64 x.b) := xm_
  have q0 : W.cell? ⟨w.heap.size + 1, 0, none⟩ = some (.int .i64 a) := vb_
  have q1 : W.cell? ⟨w.heap.size + 1, 1, none⟩ = some (.int .i64 b) := vb_
  have hl0 : w.heap.size < W.heap.size := by omega
  have hl1 : w.heap.size + 1 < W.heap.size := by omega
  go_enter Tryz.func104, Tryz.ntmps104
  go_wp2_with fail
  rw [<- hW]
  clear hW hz
  go_region_held3 (fun w' => w'.cell? ⟨w.heap.size, 0, none⟩ = some (.int .i64 x.a) ∧ w'.cell? ⟨w.heap.size, 1, none⟩ = some (.int .i64 x.b) ∧ w'.cell? ⟨w.heap.size + 1, 0, none⟩ = some (.int .i64 a) ∧ w'.cell? ⟨w.heap.size + 1, 1, none⟩ = some (.int .i64 b))
    (first | exact ⟨p0, p1, q0, q1⟩ | exact ⟨p01, p11, q01, q11⟩ | exact ⟨p02, p12, q02, q12⟩ | exact ⟨p04, p14, q04, q14⟩ | exact ⟨p03 _, p13 _, q03 _, q13 _⟩)
    (first
      | (go_at_call_of 157 (Value.int IntKind.i64 x.a); refine (cmp_any x.a a W.drew).mono ?_; rintro e w1 ⟨rfl, hb1⟩; have hb1 : Below W.heap.size W w1 := (Below.drew (Below.refl _ _)).trans hb1; have p01 := (belc hb1 hl0).trans p0; have p11 := (belc hb1 hl0).trans p1; have q01 := (belc hb1 hl1).trans q0; have q11 := (belc hb1 hl1).trans q1)
      | (go_at_call_of 157 (Value.int IntKind.i64 x.b); refine (cmp_any x.b b w1).mono ?_; rintro e w2 ⟨rfl, hb2⟩; have hz1 := hb1.size; have hb2 : Below W.heap.size W w2 := hb1.trans (hb2.mono hz1); have p02 := (belc hb2 hl0).trans p0; have p12 := (belc hb2 hl0).trans p1; have q02 := (belc hb2 hl1).trans q0; have q12 := (belc hb2 hl1).trans q1; have hl02 : w.heap.size < w2.heap.size := lt_ hl0 hb2.size; have hl12 : w.heap.size + 1 < w2.heap.size := lt_ hl1 hb2.size; have p03 := fun o => (ak_ w2 o _ _ hl02).trans p02; have p13 := fun o => (ak_ w2 o _ _ hl02).trans p12; have q03 := fun o => (ak_ w2 o _ _ hl12).trans q02; have q13 := fun o => (ak_ w2 o _ _ hl12).trans q12)
      | (go_at_call 156; refine (or_any w2.heap.size (cmpI x.a a) (cmpI x.b b) _ zk_ zk_ zk_).mono ?_; rintro e w4 ⟨rfl, hb4⟩; have hz2 := hb2.size; have hb4 : Below W.heap.size W w4 := (hb2.alloc hz2 _).trans (hb4.mono (by simp; omega)); have p04 := (belc hb4 hl0).trans p0; have p14 := (belc hb4 hl0).trans p1; have q04 := (belc hb4 hl1).trans q0; have q14 := (belc hb4 hl1).trans q1))
  all_goals
    go_wp2
    go_ret
    exact ⟨rfl, hbW.trans (hb4.mono hbW.size)⟩
end Go.Proofs.YtfolidlmgfhkiaaGreat.Dl
namespace Go.Proofs.YtfolidlmgfhkiaaGreat
open Go.RowKit
def Bx (w:World) (b:Nat) (cs:VL):Prop:=b<w/\(∀ (j:Nat) (v:Value),cs[j]?=some v->w.cell? (f_ b j)=some v)/\∀ j,w.frozen? (f_ b j)=false
section
variable {X Y:NP} {w w':World} {b K K':Nat} {cs:VL}
theorem Bx.new (w:World) (cs:VL) (t:TypeId):Bx (w.alloc (.cells cs.toArray t)) w cs :=
 ⟨zk_,fun j v hv=>by rw [ar_ _ _ _ _ _ rfl];simpa using hv,fun j=>bw_ _ _ _ _ _ rfl⟩
theorem Bx.kp (h:Bx w b cs) (hk:Kp X w w') (hx:¬X b):Bx w' b cs:=⟨lt_ h.1 hk.size,fun j v hv=>(hk.cell h.1 hx).trans (h.2.1 j v hv),fun j=>(hk.frozen h.1 hx).trans (h.2.2 j)⟩
theorem Bx.below (h:Bx w b cs) (hb:Below w w w'):Bx w' b cs:=h.kp (X:=fun _=>False) (.of_below hb) (fun h=>h)
theorem Bx.alloc (h:Bx w b cs) (o:Obj):Bx (w.alloc o) b cs:=h.kp ((Kp.refl (fun _=>False) w).alloc o) (fun h=>h)
theorem Bx.drew (h:Bx w b cs):Bx w.drew b cs:=h.kp ((Kp.refl (fun _=>False) w).drew) (fun h=>h)
theorem Bx.set (h:Bx w b cs) (k:Nat) (u:Value):Bx (w.setCell (f_ b k) u) b (cs.set k u):=by
 refine ⟨by simpa [World.setCell] using h.1,fun j v hv=>?_,fun j=>by rw [World.frozen?_setCell];exact h.2.2 j⟩;rw [gs_] at hv;by_cases hk:k=j
 ·subst hk;rw [if_pos rfl] at hv;split at hv
  ·rename_i hlt
   injection hv with hv;subst hv;exact World.cell?_setCell_same _ _ _ (h.2.1 k _ (ge_ hlt))
  cases hv
 rw [if_neg hk] at hv;rw [bk_ _ _ _ _ (by intro e;injection e with _ e;exact hk e)];exact h.2.1 j v hv
theorem Bx.far (h:Bx w b cs) {p:Addr} (hp:p.block≠b) (u:Value):Bx (w.setCell p u) b cs :=
 ⟨by simpa [World.setCell] using h.1,fun j v hv=>(World.cell?_setCell_other w p _ u (fun e=>hp xy_)).trans (h.2.1 j v hv),fun j=>by rw [World.frozen?_setCell];exact h.2.2 j⟩
theorem Bx.there (h:Bx w b cs) {o n:Nat} (ho:o+n<=cs.length):w.there b o n:=fun j hj=>by
 refine ⟨?_,h.2.2 _⟩;rw [h.2.1 (o+j) _ (ge_ o_)];rfl
theorem Bx.range (h:Bx w b cs) (o n:Nat):w.rangeAt b o ((cs.drop o).take n):=fun j v hv=>by
 rw [List.getElem?_take] at hv;split at hv
 ·rw [List.getElem?_drop] at hv;exact h.2.1 _ v hv
 cases hv
theorem Bx.whole (h:Bx w b cs):w.rangeAt b 0 cs:=fun j v hv=>by rw [Nat.zero_add];exact h.2.1 j v hv
theorem setCells_size (b:Nat):∀ (vs:VL) (o:Nat) (w:World),(w.setCells b o vs).heap.size=w
 | [],_,_=>rfl
 | v :: r,o,w=>by rw [World.setCells,setCells_size b r (o+1)];simp [World.setCell]
theorem ai_ {X:NP} (b:Nat):∀ (vs:VL) (o:Nat) {w0 w:World},Kp X w0 w->(X b\/w0<=b)->Kp X w0 (w.setCells b o vs)
 | [],_,_,_,h,_=>h
 | v :: r,o,w0,w,h,hb=>by rw [World.setCells];exact ai_ b r (o+1) (h.setCell (p:=⟨b,o,none⟩) hb v) hb
theorem Bx.put (h:Bx w b cs) (o:Nat) (vs:VL) (hv:o+vs.length<=cs.length):Bx (w.setCells b o vs) b (splice cs o vs):=by
 refine ⟨by rw [setCells_size];exact h.1,fun j v hj=>?_,fun j=>by rw [World.frozen?_setCells];exact h.2.2 j⟩;unfold splice at hj;have A0:(cs.take o).length=o:=by rw [List.length_take];omega
 by_cases h1:j<o
 ·rw [List.getElem?_append_left (by rw [A0];exact h1),List.getElem?_take,if_pos h1] at hj;rw [World.cell?_setCells_out b vs o w (f_ b j) (fun _ _=>.inl h1)];exact h.2.1 j v hj
 rw [List.getElem?_append_right z9_,A0] at hj;by_cases h2:j - o<vs.length
 ·rw [List.getElem?_append_left h2] at hj;have:=World.rangeAt_setCells_same w b o vs (h.there hv) (j - o) v hj
  rwa [show o+(j - o)=j from by omega] at this
 rw [List.getElem?_append_right o_,List.getElem?_drop] at hj;rw [World.cell?_setCells_out b vs o w (f_ b j) (fun _ _=>.inr (by show o+vs.length<=j;omega))];rw [show o+vs.length+(j - o - vs.length)=j from by omega] at hj;exact h.2.1 j v hj
theorem splice_all {α:Type} {cs vs:List α} (h:vs.length=cs.length):splice cs 0 vs=vs:=by
 unfold splice;simp [<-h]
theorem Bx.all (h:Bx w b cs) (vs:VL) (hv:vs.length=cs.length):Bx (w.setCells b 0 vs) b vs:=by
 have:=h.put 0 vs o_
 rwa [splice_all hv] at this
theorem Bx.others (h:Bx w b cs) {b' o:Nat} (hb:b'≠b) (vs:VL):Bx (w.setCells b' o vs) b cs :=
 ⟨by rw [setCells_size];exact h.1,fun j v hv=>by rw [World.cell?_setCells_out b' vs o w (f_ b j) (fun e _=>absurd e.symm hb)];exact h.2.1 j v hv,fun j=>by rw [World.frozen?_setCells];exact h.2.2 j⟩
theorem VTs.part {ts:List CT} {vs:VL} (h:VTs w X K ts vs) (o n:Nat):VTs w X K ((ts.drop o).take n) ((vs.drop o).take n):=by
 refine ⟨by simp [h.1],fun j t hj=>?_⟩;rw [List.getElem?_take] at hj;split at hj
 ·rename_i hlt
  rw [List.getElem?_drop] at hj;obtain ⟨u,hu,hv⟩:=h.2 _ t hj;exact ⟨u,by rw [List.getElem?_take,if_pos hlt,List.getElem?_drop];exact hu,hv⟩
 cases hj
end
section
variable {P:Program} {ops:Array Oper} {rest:List Oper} {op:Oper} {a:Act} {w:World} {Q:Exit->Act->World->Prop} {b o:Nat} {cs:VL}
theorem ac_ (hgd:op.guard=none) (ty:TypeId) (x:Operand) (ho:op.op=.load ty x) (d:TypeDesc) (hu:P.underlying ty=some d) (hd:d.isRow=true) (hx:a.eval x=.pointer (some (f_ b o))) (hc:w.rangeAt b o cs) (hi:(P.info? ty).map (·.size)=some cs.length)
  (h:wpList P ops Q rest (a.put op.dst (.agg cs.toArray)) w):wpList P ops Q (op :: rest) a w :=
 wpList_load_mid hgd ty x ho b o hx cs d hc hu hd hi h
theorem ab_ (hgd:op.guard=none) (ty:TypeId) (x y:Operand) (ho:op.op=.store ty x y) (vs:VL) (hx:a.eval x=.pointer (some (f_ b o))) (hy:a.eval y=.agg vs.toArray) (ht:w.there b o vs.length) (hi:(P.info? ty).map (·.size)=some vs.length) (h1:∀ u ∈ vs,u.oneCell'=true)
  (h:wpList P ops Q rest (a.put op.dst undef) (w.setCells b o vs)):wpList P ops Q (op :: rest) a w :=
 wpList_store_mid hgd ty x y ho b o vs.toArray hx hy (by rw [List.size_toArray];exact ht) (by rw [List.size_toArray];exact hi) (by simpa using h1) x5_
end
def RB (e:Ending):Prop:=∃ b,e=.returned (.bool b)
def RN (e:Ending):Prop:=∃ n:Int,e=.returned (i_ n)
def RA (X:NP) (K:Nat) (ts:List CT) (e:Ending) (w:World):Prop:=∃ vs,e=.returned (.agg vs.toArray)/\VTs w X K ts vs
def RAT (X:NP) (K:Nat) (ts:List CT) (t:CT) (e:Ending) (w:World):Prop:=∃ vs v,e=.returned (.tuple #[.agg vs.toArray,v])/\VTs w X K ts vs/\VT w X K t v
/- Results that stand in cells. -/
section
variable {P:Program} {fn:Func} {R:Ending->World->Prop} {a:Act} {w:World} {b o:Nat} {cs:VL} {p u t:Nat} {d:TypeDesc}
theorem results_C (h:fn.results=#[.cell p t]) {tmps:Array Value} (ha:tmps.getD p undef=.pointer (some (f_ b o))) (hu:P.underlying t=some d) (hd:d.isRow=true) (hi:(P.info? t).map (·.size)=some cs.length) (hc:w.rangeAt b o cs) :
  (results fn tmps).run P w=.ok (.agg cs.toArray) w:=by
 exact us_
theorem results_CT (h:fn.results=#[.cell p t,.tmp u]) {tmps:Array Value} (ha:tmps.getD p undef=.pointer (some (f_ b o))) (hu:P.underlying t=some d) (hd:d.isRow=true) (hi:(P.info? t).map (·.size)=some cs.length) (hc:w.rangeAt b o cs) :
  (results fn tmps).run P w=.ok (.tuple #[.agg cs.toArray,tmps.getD u undef]) w:=by
 exact us_
theorem retC (h:fn.results=#[.cell p t]) (ha:a.tmps.getD p undef=.pointer (some (f_ b o))) (hu:P.underlying t=some d) (hd:d.isRow=true) (hi:(P.info? t).map (·.size)=some cs.length) (hc:w.rangeAt b o cs) (hf:a.defers=[]) (hR:R (.returned (.agg cs.toArray)) w):bodyPost P fn R .ret a w :=
 bodyPost_ret (results_C h ha hu hd hi hc) hf hR
theorem ce_ (h:fn.results=#[.cell p t,.tmp u]) (ha:a.tmps.getD p undef=.pointer (some (f_ b o))) (hu:P.underlying t=some d) (hd:d.isRow=true) (hi:(P.info? t).map (·.size)=some cs.length) (hc:w.rangeAt b o cs) (hf:a.defers=[]) (hR:R (.returned (.tuple #[.agg cs.toArray,a.tmps.getD u undef])) w):bodyPost P fn R .ret a w :=
 bodyPost_ret (results_CT h ha hu hd hi hc) hf hR
end
/- The blocks that a function makes at its beginning. -/
theorem ag_ (w:World) (c0:VL) (t0:TypeId):∃ W,W=w.alloc (.cells c0.toArray t0)/\Below w w W/\(W:Nat)=w+1/\Bx W w c0 :=
 ⟨_,rfl,(b_).alloc (l_) _,zk_,Bx.new w c0 t0⟩
theorem cn_ (w:World) (c0:VL) (t0:TypeId) (c1:VL) (t1:TypeId):∃ W,W=(w.alloc (.cells c0.toArray t0)).alloc (.cells c1.toArray t1)/\Below w w W/\(W:Nat)=w+2/\Bx W w c0/\Bx W (w+1) c1:=by
 obtain ⟨V,rfl,hb,hz,b0⟩:=ag_ w c0 t0;refine ⟨_,rfl,hb.alloc o_ _,zk_,b0.alloc _,?_⟩;have:=Bx.new (w.alloc (.cells c0.toArray t0)) c1 t1
 rwa [hz] at this
theorem et_ (w:World) (c0:VL) (t0:TypeId) (c1:VL) (t1:TypeId) (c2:VL) (t2:TypeId):∃ W,W=((w.alloc (.cells c0.toArray t0)).alloc (.cells c1.toArray t1)).alloc (.cells c2.toArray t2)/\Below w w W/\(W:Nat)=w+3/\Bx W w c0/\Bx W (w+1) c1/\Bx W (w+2) c2:=by
 obtain ⟨V,rfl,hb,hz,b0,b1⟩:=cn_ w c0 t0 c1 t1;refine ⟨_,rfl,hb.alloc o_ _,zk_,b0.alloc _,b1.alloc _,?_⟩;have:=Bx.new ((w.alloc (.cells c0.toArray t0)).alloc (.cells c1.toArray t1)) c2 t2
 rwa [hz] at this
theorem blocks4 (w:World) (c0:VL) (t0:TypeId) (c1:VL) (t1:TypeId) (c2:VL) (t2:TypeId) (c3:VL) (t3:TypeId):∃ W,W=(((w.alloc (.cells c0.toArray t0)).alloc (.cells c1.toArray t1)).alloc (.cells c2.toArray t2)).alloc (.cells c3.toArray t3)/\Below w w W/\(W:Nat)=w+4/\Bx W w c0/\Bx W (w+1) c1/\Bx W (w+2) c2/\Bx W (w+3) c3:=by
 obtain ⟨V,rfl,hb,hz,b0,b1,b2⟩:=et_ w c0 t0 c1 t1 c2 t2;refine ⟨_,rfl,hb.alloc o_ _,zk_,b0.alloc _,b1.alloc _,b2.alloc _,?_⟩;have:=Bx.new (((w.alloc (.cells c0.toArray t0)).alloc (.cells c1.toArray t1)).alloc (.cells c2.toArray t2)) c3 t3
 rwa [hz] at this
structure XE where
 x:Nat->Prop
 e:World->Prop
abbrev x1 (X:NP):XE:=⟨X,fun _=>True⟩
instance:CoeFun XE (fun _=>Nat->Prop):=⟨XE.x⟩
instance:CoeOut XE (NP):=⟨XE.x⟩
structure SK (X:XE) where
 p:World->Value->Prop
 st:∀ w w' v,Kp X.x w w'->(X.e w->X.e w')->p w v->p w' v
def kAny (X:XE):SK X:=⟨fun _ _=>True,fun _ _ _ _ _ _=>trivial⟩
def RnK (P:Program) (Q:Exit->Act->World->Prop) (X:XE) (Inv:World->Prop) (κ:SK X) (o:Oper) (a:Act) (w:World):Prop:=∀ K:Act->World->Prop,(∀ v w',Kp X.x w w'->(X.e w->X.e w')->Inv w'->κ.p w' v->K (a.put o.dst v) w')->o.wp P a w K Q
def dsts (ops:Array Oper):List Nat:=ops.toList.filterMap (·.dst)
def wfOps (ops:Array Oper) (N:Nat):Bool:=(List.range ops.size).all fun i=>match ops[i]? with
 | none=>true
 | some o=>o.guard.isNone && o.after.toList.all (fun e=>decide (e.on<i)) && (match o.dst with | none=>true | some t=>decide (t<N) && (List.range ops.size).all fun j=>j == i || ((ops[j]?).bind (·.dst)) != some t)
section
variable {P:Program} {ops:Array Oper} {Q:Exit->Act->World->Prop} {X:XE} {Inv:World->Prop} {ks:Nat->SK X} {a0 a:Act} {w w':World} {listed:Array Bool}
structure SI (ops:Array Oper) (ks:Nat->SK X) (Inv:World->Prop) (a0:Act) (listed:Array Bool) (a:Act) (w:World):Prop where
 inv:Inv w
 sz:a.tmps.size=a0.tmps.size
 df:a.defers=a0.defers
 out:∀ t,t ∉ dsts ops->a.tmps.getD t undef=a0.tmps.getD t undef
 ok:∀ (i:Nat) (o:Oper) (t:Nat),listed.getD i true=true->ops[i]?=some o->o.dst=some t->(ks i).p w (a.tmps.getD t undef)
theorem wf_at {N i:Nat} {o:Oper} (h:wfOps ops N=true) (ho:ops[i]?=some o):o.guard=none/\(∀ e ∈ o.after,e.on<i)/\∀ t,o.dst=some t->t<N/\∀ (j:Nat) (oj:Oper),ops[j]?=some oj->oj.dst=some t->j=i:=by
 have hi:=(Array.getElem?_eq_some_iff.1 ho).1;have h1:=List.all_eq_true.1 h i (List.mem_range.2 hi);rw [ho] at h1;simp only [Bool.and_eq_true,Option.isNone_iff_eq_none] at h1;refine ⟨h1.1.1,fun e he=>?_,fun t ht=>?_⟩
 ·have:=List.all_eq_true.1 h1.1.2 e (by rwa [<-Array.mem_def]);exact of_decide_eq_true this
 have h2:=h1.2;rw [ht] at h2;simp only [Bool.and_eq_true,decide_eq_true_eq] at h2;refine ⟨h2.1,fun j oj hj hd=>?_⟩;have A0:=(Array.getElem?_eq_some_iff.1 hj).1;have h3:=List.all_eq_true.1 h2.2 j (List.mem_range.2 A0);rw [hj] at h3;simp only [Option.bind_some,hd,Bool.or_eq_true,beq_iff_eq,bne_self_eq_false,Bool.false_eq_true,or_false] at h3;exact h3
theorem getD_putK {a:Act} {d t:Nat} {v:Value} (hd:d<a.tmps.size):(a.put (some d) v).tmps.getD t undef=if t=d then v else a.tmps.getD t undef:=by
 show (a.tmps.setIfInBounds d v).getD t undef=_
 rw [Array.getD_eq_getD_getElem?,Array.getElem?_setIfInBounds,Array.getD_eq_getD_getElem?];by_cases h:t=d
 ·subst h;rw [if_pos rfl,if_pos rfl,if_pos hd];rfl
 rw [if_neg (fun e=>h e.symm),if_neg h]
theorem SI.step {i:Nat} {o:Oper} {v:Value} (h:SI ops ks Inv a0 listed a w) (hw:wfOps ops a0.tmps.size=true) (ho:ops[i]?=some o) (hk:Kp X.x w w') (he:X.e w->X.e w') (hi:Inv w') (hv:(ks i).p w' v):SI ops ks Inv a0 (listed.setIfInBounds i true) (a.put o.dst v) w':=by
 obtain ⟨hg,ha,hd⟩:=wf_at hw ho;cases hdst:o.dst with
 | none =>
  refine ⟨hi,h.sz,h.df,h.out,fun j oj t hj A0 ht=>?_⟩;show (ks j).p w' (a.tmps.getD t undef)
  by_cases hji:j=i
  ·subst hji;rw [ho] at A0;injection A0 with A0;subst A0;rw [hdst] at ht;cases ht
  exact tr_
 | some d =>
  obtain ⟨A1,A3⟩:=hd d hdst;rw [<-h.sz] at A1;have A2:d ∈ dsts ops:=List.mem_filterMap.2 ⟨o,by rw [<-Array.mem_def];exact Array.mem_of_getElem? ho,hdst⟩;refine ⟨hi,?_,h.df,fun t ht=>?_,fun j oj t hj A0 ht=>?_⟩
  ·show (a.tmps.setIfInBounds d v).size=_
   rw [Array.size_setIfInBounds];exact h.sz
  ·rw [getD_putK A1,if_neg (fun e=>ht (by rw [e];exact A2))];exact h.out t ht
  rw [getD_putK A1];by_cases hji:j=i
  ·subst hji;rw [ho] at A0;injection A0 with A0;subst A0;rw [hdst] at ht;injection ht with ht;subst ht;rw [if_pos rfl];exact hv
  by_cases htd:t=d
  ·subst htd;exact absurd (A3 j oj A0 ht) hji
  rw [if_neg htd];exact tr_
def StepK (P:Program) (ops:Array Oper) (Q:Exit->Act->World->Prop) (Inv:World->Prop) (ks:Nat->SK X) (a0:Act):Prop:=∀ (i:Nat) (o:Oper),ops[i]?=some o->∀ a w,Inv w->(∀ t,t ∉ dsts ops->a.tmps.getD t undef=a0.tmps.getD t undef) →
 (∀ j:Nat,o.after.toList.any (fun e=>Region.binds .any e && e.on == j)=true->∀ (oj:Oper) (t:Nat),ops[j]?=some oj->oj.dst=some t->(ks j).p w (a.tmps.getD t undef))->RnK P Q X Inv (ks i) o a w
theorem count_drop {p p':Nat->Bool} {i:Nat} (h1:p i=true) (h2:p' i=false) (h3:∀ j,j≠i->p' j=p j):∀ n,i<n->(List.range n).countP p'+1=(List.range n).countP p
 | 0,h=>by omega
 | n+1,h=>by
  rw [List.range_succ,List.countP_append,List.countP_append,List.countP_singleton,List.countP_singleton];by_cases e:i=n
  ·subst e;rw [h1,h2];have:(List.range i).countP p'=(List.range i).countP p:=List.countP_congr (fun j hj=>by rw [h3 j (by have:=List.mem_range.1 hj;omega)]);simp [this]
  rw [h3 n (fun e2=>e e2.symm)];have:=count_drop h1 h2 h3 n o_;omega
def unl (n:Nat) (listed:Array Bool):Nat:=(List.range n).countP (fun i=>!listed.getD i true)
theorem unl_zero {n:Nat} (h:unl n listed=0):∀ i,i<n->listed.getD i true=true:=fun i hi=>by
 have:=List.countP_eq_zero.1 h i (List.mem_range.2 hi)
 simpa using this
theorem unl_step {n i:Nat} (hi:i<n) (hl:listed.getD i true=false):unl n (listed.setIfInBounds i true)+1=unl n listed:=by
 have hsz:i<listed.size:=by
  rcases Nat.lt_or_ge i listed.size with h | h
  ·exact h
  rw [Array.getD_eq_getD_getElem?,Array.getElem?_eq_none h] at hl;cases hl
 refine count_drop (i:=i) (by rw [hl];rfl) ?_ (fun j hj=>?_) n hi
 ·rw [Array.getD_eq_getD_getElem?,Array.getElem?_setIfInBounds,if_pos rfl,if_pos hsz];rfl
 rw [Array.getD_eq_getD_getElem?,Array.getD_eq_getD_getElem?,Array.getElem?_setIfInBounds,if_neg (fun e=>hj e.symm)]
theorem all_done (hw:wfOps ops a0.tmps.size=true) (hz:listed.size=ops.size) (hr:Region.ready .any ops listed=[]):∀ i,i<ops.size->listed.getD i true=true:=fun i=>by
 induction i using Nat.strongRecOn with
 | ind i ih =>
  intro hi;cases hl:listed.getD i true
  ·exfalso;have hm:i ∈ Region.ready .any ops listed:=mem_ready.2 ⟨hl,ops[i],Array.getElem?_eq_getElem hi,fun e he _=>by
    have h1:=(wf_at hw (Array.getElem?_eq_getElem hi)).2.1 e he
    have h2:=ih e.on h1 o_
    rw [Array.getD_eq_getD_getElem?] at h2 ⊢
    have h3:e.on<listed.size:=by omega
    rw [Array.getElem?_eq_getElem h3] at h2 ⊢
    exact h2⟩
   rw [hr] at hm;cases hm
  rfl
theorem any_k (hw:wfOps ops a0.tmps.size=true) (hs:StepK P ops Q Inv ks a0) (fin:∀ a w,Inv w->a.tmps.size=a0.tmps.size->a.defers=a0.defers->(∀ t,t ∉ dsts ops->a.tmps.getD t undef=a0.tmps.getD t undef)->(∀ (i:Nat) (o:Oper) (t:Nat),ops[i]?=some o->o.dst=some t->(ks i).p w (a.tmps.getD t undef))->Q .normal a w) :
  ∀ (fuel:Nat) (listed:Array Bool) (a:Act) (w:World),SI ops ks Inv a0 listed a w->listed.size=ops.size->unl ops.size listed<=fuel->wpAny P .any ops Q fuel listed a w:=by
 have done:∀ (listed:Array Bool) (a:Act) (w:World),SI ops ks Inv a0 listed a w->(∀ i,i<ops.size->listed.getD i true=true)->Q .normal a w:=fun listed a w h ha =>
  fin a w h.inv h.sz h.df h.out (fun i o t ho ht=>h.ok i o t (ha i (Array.getElem?_eq_some_iff.1 ho).1) ho ht)
 intro fuel
 induction fuel with
 | zero =>
  intro listed a w h hz hu;have A0:=unl_zero (n:=ops.size) (listed:=listed) o_;refine ⟨?_,done listed a w h A0⟩;cases hr:Region.ready .any ops listed with
  | nil=>rfl
  | cons x xs =>
   exfalso;obtain ⟨h1,o,ho,_⟩:=mem_ready.1 (show x ∈ Region.ready .any ops listed from by rw [hr];exact .head _);rw [A0 x (Array.getElem?_eq_some_iff.1 ho).1] at h1;cases h1
 | succ fuel ih =>
  intro listed a w h hz hu;refine ⟨fun hr=>done listed a w h (all_done hw hz hr),fun i hi=>?_⟩;obtain ⟨h1,o,ho,h2⟩:=mem_ready.1 hi;have A4:=(Array.getElem?_eq_some_iff.1 ho).1;obtain ⟨hg,_,_⟩:=wf_at hw ho;refine wpOp_step ho (fun K hK=>?_);simp only [Region.wanted,hg,if_true];refine hs i o ho a w h.inv h.out (fun j hj oj t A5 ht=>h.ok j oj t ?_ A5 ht) K (fun v w' hk he A3 hv=>hK _ _ ?_)
  ·rw [List.any_eq_true] at hj;obtain ⟨e,he,A1⟩:=hj;rw [<-Array.mem_def] at he;obtain ⟨A2,A1⟩:Region.binds .any e=true/\e.on=j:=by simpa using A1
   subst A1;have h3:=h2 e he A2;have h4:e.on<listed.size:=by
    rcases Nat.lt_or_ge e.on listed.size with h | h
    ·exact h
    rw [Array.getD_eq_getD_getElem?,Array.getElem?_eq_none h] at h3;cases h3
   rw [Array.getD_eq_getD_getElem?,Array.getElem?_eq_getElem h4] at h3 ⊢;exact h3
  have h5:=unl_step (n:=ops.size) A4 h1;exact ih _ _ _ (h.step hw ho hk he A3 hv) ys_ o_
theorem do_ {id:Nat} (hm:P.follows .mixedOrders=true) (hw:wfOps ops a0.tmps.size=true) (h0:Inv w.drew) (hs:StepK P ops Q Inv ks a0) (fin:∀ a w,Inv w->a.tmps.size=a0.tmps.size->a.defers=a0.defers->(∀ t,t ∉ dsts ops->a.tmps.getD t undef=a0.tmps.getD t undef)->(∀ (i:Nat) (o:Oper) (t:Nat),ops[i]?=some o->o.dst=some t->(ks i).p w (a.tmps.getD t undef))->Q .normal a w) :
  (Code.region id ops true).wp P Q a0 w:=by
 refine wp_region_any hm (any_k hw hs fin ops.size _ a0 _ ⟨h0,rfl,rfl,fun _ _=>rfl,fun i o t hl ho _=>?_⟩ t_ ?_)
 ·exact u7_
 unfold unl;have:=List.countP_le_length (p:=fun i=>!(Array.replicate ops.size false).getD i true) (l:=List.range ops.size)
 simpa using this
theorem list_k {id:Nat} (hw:wfOps ops a0.tmps.size=true) (hs:StepK P ops Q Inv ks a0) (fin:∀ a w,Inv w->a.tmps.size=a0.tmps.size->a.defers=a0.defers->(∀ t,t ∉ dsts ops->a.tmps.getD t undef=a0.tmps.getD t undef)->(∀ (i:Nat) (o:Oper) (t:Nat),ops[i]?=some o->o.dst=some t->(ks i).p w (a.tmps.getD t undef))->Q .normal a w) :
  ∀ (rest:List Oper) (k:Nat) (listed:Array Bool) (a:Act) (w:World),ops.toList.drop k=rest->listed.size=ops.size->(∀ j,j<ops.size->(listed.getD j true=true↔j<k))->SI ops ks Inv a0 listed a w->wpList P ops Q rest a w:=by
 intro rest
 induction rest with
 | nil =>
  intro k listed a w hd hz hl h;have hk:ops.size<=k:=by
   have:=congrArg List.length hd;simp at this;omega
  exact fin a w h.inv h.sz h.df h.out (fun i o t ho ht=>h.ok i o t ((hl i (Array.getElem?_eq_some_iff.1 ho).1).2 (by have:=(Array.getElem?_eq_some_iff.1 ho).1;omega)) ho ht)
 | cons o rest ih =>
  intro k listed a w hd hz hl h;have ho:ops[k]?=some o:=by
   have:(ops.toList.drop k)[0]?=some o:=by rw [hd];rfl
   rw [List.getElem?_drop] at this
   simpa using this
  have A4:=(Array.getElem?_eq_some_iff.1 ho).1;obtain ⟨hg,A0,_⟩:=wf_at hw ho;refine wpList_plain hg (fun K hK=>?_);refine hs k o ho a w h.inv h.out (fun j hj oj t A3 ht=>h.ok j oj t ?_ A3 ht) K (fun v w' hk he A2 hv=>hK _ _ ?_)
  ·rw [List.any_eq_true] at hj;obtain ⟨e,he,A1⟩:=hj;rw [<-Array.mem_def] at he;have A1:e.on=j:=(by simpa using A1:Region.binds .any e=true/\e.on=j).2;subst A1;exact (hl _ (by have:=A0 e he;omega)).2 (A0 e he)
  refine ih (k+1) (listed.setIfInBounds k true) _ _ ?_ ys_ (fun j hj=>?_) (h.step hw ho hk he A2 hv)
  ·rw [<-List.tail_drop,hd];rfl
  rw [Array.getD_eq_getD_getElem?,Array.getElem?_setIfInBounds];by_cases e:k=j
  ·subst e;rw [if_pos rfl,if_pos o_];simp
  rw [if_neg e,<-Array.getD_eq_getD_getElem?,hl j hj];omega
theorem bg_ {id:Nat} (hw:wfOps ops a0.tmps.size=true) (h0:Inv w) (hs:StepK P ops Q Inv ks a0) (fin:∀ a w,Inv w->a.tmps.size=a0.tmps.size->a.defers=a0.defers->(∀ t,t ∉ dsts ops->a.tmps.getD t undef=a0.tmps.getD t undef)->(∀ (i:Nat) (o:Oper) (t:Nat),ops[i]?=some o->o.dst=some t->(ks i).p w (a.tmps.getD t undef))->Q .normal a w) :
  (Code.region id ops false).wp P Q a0 w:=by
 refine wp_region_list (list_k (id:=id) hw hs fin ops.toList 0 (Array.replicate ops.size false) a0 w rfl t_ (fun j hj=>?_) ⟨h0,rfl,rfl,fun _ _=>rfl,fun i o t hl ho _=>?_⟩)
 ·rw [Array.getD_eq_getD_getElem?,Array.getElem?_replicate,if_pos hj];simp
 exact u7_
theorem foldl_put (g:Nat->Value):∀ (D:List Nat) (a0:Act),(∀ t ∈ D,t<a0.tmps.size)->(D.foldl (fun b t=>b.put (some t) (g t)) a0).tmps.size=a0.tmps.size/\(D.foldl (fun b t=>b.put (some t) (g t)) a0).defers=a0.defers/\∀ t,(D.foldl (fun b t=>b.put (some t) (g t)) a0).tmps.getD t undef=if t ∈ D then g t else a0.tmps.getD t undef
 | [],a0,_=>⟨rfl,rfl,fun t=>by simp⟩
 | d :: D,a0,hD=>by
  have hs:(a0.put (some d) (g d)).tmps.size=a0.tmps.size:=by show (a0.tmps.setIfInBounds d (g d)).size=_;rw [Array.size_setIfInBounds]
  obtain ⟨h1,h2,h3⟩:=foldl_put g D (a0.put (some d) (g d)) (fun t ht=>by rw [hs];exact hD t (.tail _ ht));refine ⟨h1.trans hs,h2,fun t=>?_⟩;rw [List.foldl_cons,h3,getD_putK (hD d (.head _))];by_cases e:t ∈ D
  ·rw [if_pos e,if_pos (.tail _ e)]
  rw [if_neg e];by_cases e2:t=d
  ·subst e2;rw [if_pos rfl,if_pos (.head _)]
  rw [if_neg e2,if_neg (fun h=>by rcases List.mem_cons.1 h with h | h;exact e2 h;exact e h)]
theorem dn_ {a a0:Act} {D:List Nat} {g:Nat->Value} (hsz:a.tmps.size=a0.tmps.size) (hdf:a.defers=a0.defers) (hD:∀ t ∈ D,t<a0.tmps.size) (hout:∀ t,t ∉ D->a.tmps.getD t undef=a0.tmps.getD t undef) (hg:∀ t,a.tmps.getD t undef=g t):a=D.foldl (fun b t=>b.put (some t) (g t)) a0:=by
 obtain ⟨h1,h2,h3⟩:=foldl_put g D a0 hD;generalize D.foldl (fun b t=>b.put (some t) (g t)) a0=r at h1 h2 h3;obtain ⟨at_,ad⟩:=a;obtain ⟨rt,rd⟩:=r;have e1:ad=rd:=hdf.trans h2.symm;have e2:at_=rt:=by
  apply Array.ext (hsz.trans h1.symm);intro i A0 A1;have k1:=hout i;have k2:=hg i;have k3:=h3 i;simp only [Array.getD_eq_getD_getElem?,Array.getElem?_eq_getElem A0,Array.getElem?_eq_getElem A1,Option.getD_some] at k1 k2 k3;by_cases e:i ∈ D
  ·rw [if_pos e] at k3;rw [k2,k3]
  rw [if_neg e] at k3;rw [k1 e,k3]
 rw [e1,e2]
end
section
variable {X:NP} {w:World} {K:Nat}
theorem list_choose {α:Type} {n:Nat} {R:Nat->α->Prop} (h:∀ k,k<n->∃ x,R k x):∃ l:List α,l.length=n/\∀ (k:Nat) (x:α),l[k]?=some x->R k x:=by
 induction n with
 | zero=>exact ⟨[],rfl,fun k x hx=>by simp at hx⟩
 | succ n ih =>
  obtain ⟨l,hl,hR⟩:=ih (fun k hk=>h k o_);obtain ⟨x,hx⟩:=h n o_;refine ⟨l ++ [x],by simp [hl],fun k y hy=>?_⟩;by_cases hk:k<n
  ·rw [List.getElem?_append_left o_] at hy;exact hR k y hy
  rw [List.getElem?_append_right o_,hl] at hy;have A0:k=n:=by
   have:=(e_ hy).1;simp at this;omega
  subst A0;simp at hy;subst hy;exact hx
theorem SlT.list {α:Type} {e:List CT} {A:OA} {n c:Nat} (cells:α->VL) (P:α->Prop) (h:SlT w X K e A n c) (hc:∀ vs,VTs w X K e vs->∃ x:α,cells x=vs/\P x):∃ l:List α,Sl w w e.length cells A n l/\∀ x ∈ l,P x:=by
 rcases Nat.eq_zero_or_pos n with rfl | hn
 ·exact ⟨[],Sl.nil,fun x hx=>by simp at hx⟩
 obtain ⟨g,o,hA,hg,hX,_⟩:=h.mt hn;subst hA;obtain ⟨l,hl,hR⟩:=list_choose (n:=n) (R:=fun k x=>P x/\∀ j u,(cells x)[j]?=some u->w.cell? ⟨g,o+(k*e.length+j),none⟩=some u) (fun k hk=>by
  obtain ⟨g',o',A0,_,_,vs,A1,hm⟩:=h.mt hk
  injection A0 with A0
  injection A0 with h1 h2
  subst h1 h2
  obtain ⟨x,hx,hP⟩:=hc vs A1
  exact ⟨x,hP,fun j u hu=>by rw [hx] at hu;have:=hm j u hu;rwa [Nat.add_assoc] at this⟩)
 refine ⟨l,⟨hl,fun _=>⟨g,o,rfl,hg,fun i x hx j u hu=>(hR i x hx).2 j u hu⟩⟩,fun x hx=>?_⟩;obtain ⟨k,hk⟩:=List.getElem?_of_mem hx;exact (hR k x hk).1
theorem VTs.len {ts:List CT} {vs:VL} (h:VTs w X K ts vs):vs.length=ts.length:=h.1
theorem VTs.num {ts:List CT} {vs:VL} (h:VTs w X K ts vs) {j:Nat} (hj:ts[j]?=some .num):∃ n,vs[j]?=some (i_ n):=by
 obtain ⟨u,hu,hv⟩:=h.2 j _ hj;obtain ⟨n,rfl⟩:=hv.int;exact ⟨n,hu⟩
theorem VTs.tru {ts:List CT} {vs:VL} (h:VTs w X K ts vs) {j:Nat} (hj:ts[j]?=some .tru):∃ n,vs[j]?=some (.bool n):=by
 obtain ⟨u,hu,hv⟩:=h.2 j _ hj;obtain ⟨n,rfl⟩:=hv.bool;exact ⟨n,hu⟩
theorem VTs.slc {ts e:List CT} {vs:VL} (h:VTs w X K ts vs) {j:Nat} (hj:ts[j]?=some (.sl e)):∃ A n c,vs[j]?=some (.slice A n c)/\SlT w X K e A n c:=by
 obtain ⟨u,hu,hv⟩:=h.2 j _ hj;obtain ⟨A,n,c,rfl,hs⟩:=hv.slice;exact ⟨A,n,c,hu,hs⟩
end
section
variable {P:Program} {ops:Array Oper} {Q:Exit->Act->World->Prop} {X:XE} {Inv:World->Prop} {ks:Nat->SK X} {a0 a:Act} {w w':World} {listed:Array Bool}
def StepZ (P:Program) (ops:Array Oper) (Q:Exit->Act->World->Prop) (Inv:World->Prop) (ks:Nat->SK X) (a0:Act) (n:Nat):Prop:=∀ (i:Nat) (o:Oper),i≠n->ops[i]?=some o->∀ a w,Inv w->(∀ t,t ∉ dsts ops->a.tmps.getD t undef=a0.tmps.getD t undef) →
 (∀ j:Nat,o.after.toList.any (fun e=>Region.binds .any e && e.on == j)=true->∀ (oj:Oper) (t:Nat),ops[j]?=some oj->oj.dst=some t->(ks j).p w (a.tmps.getD t undef))->RnK P Q X Inv (ks i) o a w
def LastZ (P:Program) (ops:Array Oper) (Q:Exit->Act->World->Prop) (Inv:World->Prop) (ks:Nat->SK X) (a0:Act) (n:Nat) (ol:Oper):Prop:=∀ a w,Inv w->a.tmps.size=a0.tmps.size->a.defers=a0.defers->(∀ t,t ∉ dsts ops->a.tmps.getD t undef=a0.tmps.getD t undef) →
 (∀ (i:Nat) (o:Oper) (t:Nat),i≠n->ops[i]?=some o->o.dst=some t->(ks i).p w (a.tmps.getD t undef))->∀ K:Act->World->Prop,(∀ a w,Q .normal a w->K a w)->ol.wp P a w K Q
theorem ready_none (h:∀ i,i<ops.size->listed.getD i true=true):Region.ready .any ops listed=[]:=by
 cases hr:Region.ready .any ops listed with
 | nil=>rfl
 | cons x xs =>
  exfalso;obtain ⟨h1,o,ho,_⟩:=mem_ready.1 (show x ∈ Region.ready .any ops listed from by rw [hr];exact .head _);rw [h x (Array.getElem?_eq_some_iff.1 ho).1] at h1;cases h1
theorem any_end {fuel:Nat} (h:∀ i,i<ops.size->listed.getD i true=true) (hQ:Q .normal a w):wpAny P .any ops Q fuel listed a w:=by
 have hr:=ready_none h;cases fuel with
 | zero=>exact ⟨hr,hQ⟩
 | succ f=>exact ⟨fun _=>hQ,fun i hi=>by rw [hr] at hi;cases hi⟩
theorem any_kz {n:Nat} {ol:Oper} (hw:wfOps ops a0.tmps.size=true) (hn:ops.size=n+1) (hol:ops[n]?=some ol) (hall:(List.range n).all (fun j=>ol.after.toList.any (fun e=>Region.binds .any e && e.on == j))=true) (hs:StepZ P ops Q Inv ks a0 n) (hl:LastZ P ops Q Inv ks a0 n ol) :
  ∀ (fuel:Nat) (listed:Array Bool) (a:Act) (w:World),SI ops ks Inv a0 listed a w->listed.getD n true=false->listed.size=ops.size->unl ops.size listed<=fuel->wpAny P .any ops Q fuel listed a w:=by
 intro fuel
 induction fuel with
 | zero =>
  intro listed a w h A0 hz hu;have:=unl_zero (n:=ops.size) (listed:=listed) o_ n o_;rw [A0] at this;cases this
 | succ fuel ih =>
  intro listed a w h A0 hz hu;refine ⟨fun hr=>?_,fun i hi=>?_⟩
  ·have:=all_done hw hz hr n o_;rw [A0] at this;cases this
  obtain ⟨h1,o,ho,h2⟩:=mem_ready.1 hi;have A7:=(Array.getElem?_eq_some_iff.1 ho).1;obtain ⟨hg,_,_⟩:=wf_at hw ho;have A3:∀ j:Nat,o.after.toList.any (fun e=>Region.binds .any e && e.on == j)=true->listed.getD j true=true:=fun j hj=>by
   rw [List.any_eq_true] at hj;obtain ⟨e,he,A2⟩:=hj;rw [<-Array.mem_def] at he;obtain ⟨A5,A2⟩:Region.binds .any e=true/\e.on=j:=by simpa using A2
   subst A2;have h3:=h2 e he A5;have h4:e.on<listed.size:=by
    rcases Nat.lt_or_ge e.on listed.size with h | h
    ·exact h
    rw [Array.getD_eq_getD_getElem?,Array.getElem?_eq_none h] at h3;cases h3
   rw [Array.getD_eq_getD_getElem?,Array.getElem?_eq_getElem h4] at h3 ⊢;exact h3
  refine wpOp_step ho (fun K hK=>?_);simp only [Region.wanted,hg,if_true];by_cases hin:i=n
  ·subst hin;rw [hol] at ho;injection ho with ho;subst ho;have A4:∀ j,j<i->listed.getD j true=true:=fun j hj=>A3 j (List.all_eq_true.1 hall j (List.mem_range.2 hj))
   refine hl a w h.inv h.sz h.df h.out (fun j oj t hj A1 ht=>h.ok j oj t (A4 j vn_) A1 ht) K (fun a' w' hq=>hK _ _ (any_end (fun j hj=>?_) hq));by_cases e:j=i
   ·subst e;rw [Array.getD_eq_getD_getElem?,Array.getElem?_setIfInBounds,if_pos rfl,if_pos o_];rfl
   rw [getD_set_ne true (Ne.symm e)];exact A4 j o_
  refine hs i o hin ho a w h.inv h.out (fun j hj oj t A1 ht=>h.ok j oj t (A3 j hj) A1 ht) K (fun v w' hk he A6 hv=>hK _ _ ?_);have h5:=unl_step (n:=ops.size) A7 h1;exact ih _ _ _ (h.step hw ho hk he A6 hv) (by rw [getD_set_ne true hin];exact A0) ys_ o_
theorem fc_ {id:Nat} (n:Nat) {ol:Oper} (hm:P.follows .mixedOrders=true) (hw:wfOps ops a0.tmps.size=true) (hn:ops.size=n+1) (hol:ops[n]?=some ol) (hall:(List.range n).all (fun j=>ol.after.toList.any (fun e=>Region.binds .any e && e.on == j))=true) (h0:Inv w.drew) (hs:StepZ P ops Q Inv ks a0 n) (hl:LastZ P ops Q Inv ks a0 n ol) :
  (Code.region id ops true).wp P Q a0 w:=by
 refine wp_region_any hm (any_kz hw hn hol hall hs hl ops.size _ a0 _ ⟨h0,rfl,rfl,fun _ _=>rfl,fun i o t A1 ho _=>?_⟩ ?_ t_ ?_)
 ·exfalso;have A0:=(Array.getElem?_eq_some_iff.1 ho).1;rw [Array.getD_eq_getD_getElem?,Array.getElem?_replicate,if_pos A0] at A1;cases A1
 ·rw [Array.getD_eq_getD_getElem?,Array.getElem?_replicate,if_pos o_];rfl
 unfold unl;have:=List.countP_le_length (p:=fun i=>!(Array.replicate ops.size false).getD i true) (l:=List.range ops.size)
 simpa using this
end
end Go.Proofs.YtfolidlmgfhkiaaGreat
