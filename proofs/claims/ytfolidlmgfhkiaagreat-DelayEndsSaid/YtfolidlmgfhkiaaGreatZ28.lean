/- Lemmas: each says what a function of the program leaves, under the conditions that it states. -/
import Derived.Test.YtfolidlmgfhkiaaGreatZ07
set_option linter.unusedVariables false
set_option linter.unusedSimpArgs false
set_option maxRecDepth 100000
set_option maxHeartbeats 4000000
namespace Go.Proofs.YtfolidlmgfhkiaaGreat
open Go.RowKit
theorem zero_at {z:Array Value} {n k j:Nat} {u:Value} (hk:k<n) (hu:z[j]?=some u):(Builtin.zeroCells z n).toList[k*z.size+j]?=some u:=by
 obtain ⟨hj,rfl⟩:=Array.getElem?_eq_some_iff.1 hu;have A0:k*z.size+j<n*z.size:=by
  have:(k+1)*z.size<=n*z.size:=Nat.mul_le_mul_right _ hk;rw [Nat.add_mul] at this;omega
 have hm:(k*z.size+j) % z.size=j:=by rw [Nat.mul_comm,Nat.mul_add_mod,Nat.mod_eq_of_lt hj]
 rw [Array.getElem?_toList];unfold Builtin.zeroCells;rw [Array.getElem?_map,Array.getElem?_range,if_pos A0,Option.map_some,hm,getElem!_pos z j hj]
theorem zeros_one {z:Array Value} {n:Nat} (h:∀ u ∈ z.toList,u.oneCell'=true) (hz:0<z.size):∀ u ∈ (Builtin.zeroCells z n).toList,u.oneCell'=true:=fun u hu=>by
 unfold Builtin.zeroCells at hu;rw [Array.toList_map,List.mem_map] at hu;obtain ⟨i,_,rfl⟩:=hu;have hi:i % z.size<z.size:=Nat.mod_lt _ hz;rw [getElem!_pos z _ hi];exact h _ t_
section
variable {P:Program}
theorem run_append_zeros_own (w:World) (base:Nat) (t tn ty e:TypeId) (i:TypeInfo) (z:Value) (size bytes:Nat) (kq kn:IntKind) (ht:P.underlying t=some (.slice e)) (htn:P.underlying tn=some (.int kn)) (hi:P.info? e=some i) (hz:i.zero=some z)
  (hsize:i.size=size) (hby:i.bytes=bytes) (hzs:z.cells.size=size) (hsz:0<size) (h1:∀ u ∈ z.cells.toList,u.oneCell'=true)
  (A:OA) (n c:Nat) (xs:VL) (hown:w.ownsRow base e size (.slice A n c) n xs) (m:Nat)
  (h63:n+m<=maxLen) (hbytes:(n+m)*bytes<=140737488355328) (hbase:base<=w) :
  ∃ A' c' w',(Builtin.append_ #[t,tn] ty #[.slice A n c,.int kq m]).run P w=.ok (.slice A' (n+m) c') w'/\w'.ownsRow base e size (.slice A' (n+m) c') (n+m) (xs ++ (Builtin.zeroCells z.cells m).toList)/\w.grownBy w' (Value.slice A n c).ownBlock ∧
   (∀ g,(Value.slice A' (n+m) c').ownBlock=some g->(Value.slice A n c).ownBlock=some g∨g=w):=by
 subst hsize;subst hby;have A9:n+m<=9223372036854775807:=by simp only [maxLen] at h63;omega
 have hw:IntKind.i64.wrap (m:Int)=m:=by rw [IntKind.wrap_i64];omega
 have A8:¬((m:Int)<0):=by omega
 have Aj:m*i.bytes<=140737488355328:=Nat.le_trans (Nat.mul_le_mul_right _ (Nat.le_add_left m n)) hbytes;have A5:¬(281474976710656<(m:Int)*(i.bytes:Int)):=by
  rw [←Int.natCast_mul];omega
 have Aa:(Builtin.zeroCells z.cells m).toList.length=m*i.size:=by rw [Array.length_toList,size_zeroCells,hzs]
 have A0:(xs ++ (Builtin.zeroCells z.cells m).toList).length=(n+m)*i.size:=by rw [List.length_append,hown.1,Aa,Nat.add_mul]
 rcases Nat.eq_zero_or_pos m with rfl | hm
 ·have Ah:(Builtin.zeroCells z.cells 0).toList=[]:=List.eq_nil_of_length_eq_zero (by rw [Aa];omega);refine ⟨A,c,w,?_,by rw [Ah,List.append_nil];exact hown,⟨rfl,rfl,rfl,l_,fun _ _ _=>rfl⟩,fun g hg=>.inl hg⟩;have A7:n<=c:=(dc_ hown).1;have Ac:IntKind.i64.wrap 0=0:=rfl;have Ai:¬(281474976710656<(0:Int)*(i.bytes:Int)):=by omega
  cases A with
  | none=>simp [Builtin.append_,run_underlying ht,run_underlying htn,sizeOf,typeInfo,hi,asInt,asIntOf,Ac,A7]
  | some ad=>simp [Builtin.append_,run_underlying ht,run_underlying htn,sizeOf,typeInfo,hi,asInt,asIntOf,Ac,A7,storeCells]
 have grown:∀ (A1:Nat),A1<n+m->∀ (row:Option Nat),
   (w.drew.alloc (.cells (xs.toArray ++ Builtin.zeroCells z.cells m ++ Builtin.zeroCells z.cells (grownCap w (n+m) A1 e - (n+m))) e)).ownsRow base e i.size
    (.slice (some (a_ w)) (n+m) (grownCap w (n+m) A1 e)) (n+m) (xs ++ (Builtin.zeroCells z.cells m).toList) ∧
   w.grownBy (w.drew.alloc (.cells (xs.toArray ++ Builtin.zeroCells z.cells m ++ Builtin.zeroCells z.cells (grownCap w (n+m) A1 e - (n+m))) e)) row:=by
  intro A1 ho row;have Ad:=grownCap_ge w (n+m) A1 e;have A6:grownCap w (n+m) A1 e<=maxLen:=grownCap_le_maxLen w (n+m) A1 e h63;refine ⟨⟨A0,.inr ⟨w,_,_,rfl,hbase,heap_alloc_new w.drew _,Ad,A6,?_,?_⟩⟩,⟨rfl,rfl,rfl,by simp,fun k hk _=>Below.heap_alloc _ _ _ hk⟩⟩
  ·simp only [Array.size_append,List.size_toArray,size_zeroCells,hzs,hown.1,←Nat.add_mul]
   congr 1
   omega
  simp only [Array.toList_append];rw [←A0];exact List.take_left
 rcases hown.2 with ⟨hA,rfl⟩ | ⟨g,cap,cur,hA,hbg,hg,A7,A6,hcs,htake⟩
 ·injection hA with q1 q2 q3;subst q1 q3;have hx:xs=[]:=List.eq_nil_of_length_eq_zero (by simpa using hown.1);subst hx;have hr:=Lib.run_append_nil_zeros (P:=P) w t tn ty e i z kq kn ht htn hi hz m hm hsz o_ o_;have A2:=grown 0 o_ (Value.ownBlock (.slice none 0 0));simp only [Nat.zero_add,List.nil_append,Array.empty_append] at A2 ⊢;exact ⟨_,_,_,hr,A2.1,A2.2,fun g hg=>.inr (by simp [Value.ownBlock] at hg;exact hg.symm)⟩
 injection hA with q1 q2 q3;subst q1 q3;by_cases hroom:n+m<=c
 ·have A3:n*i.size+(Builtin.zeroCells z.cells m).toList.length<=cur.size:=by rw [Aa,hcs,←Nat.add_mul];exact Nat.mul_le_mul_right _ hroom
  have Ab:=run_storeCells_at P g (n*i.size) e (Builtin.zeroCells z.cells m).toList 0 cur w hg (by simpa using A3) (zeros_one h1 (by rw [hzs];exact hsz));simp only [Nat.add_zero] at Ab;have Af:¬(m*i.size=0):=Nat.mul_ne_zero o_ o_;refine ⟨some (a_ g),c,w.setRow g (cur.toList.take (n*i.size) ++ (Builtin.zeroCells z.cells m).toList ++ cur.toList.drop (n*i.size+(Builtin.zeroCells z.cells m).toList.length)).toArray,?_,⟨A0,.inr ⟨g,c,_,rfl,hbg,setRow_heap w g cur _ e _ hg,hroom,A6,?_,?_⟩⟩,⟨rfl,rfl,rfl,by simp,fun k _ hk=>setRow_other w g k _ (fun e=>hk (by simp [Value.ownBlock,e]))⟩,fun q hq=>.inl hq⟩
  ·have Ae:m≠0:=by omega
   have Ag:i.size≠0:=by omega
   simp [Builtin.append_,run_underlying ht,run_underlying htn,sizeOf,typeInfo,zeroValue,hi,hz,asInt,asIntOf,hw,A8,A5,Af,Ae,Ag,hroom,Addr.add_lit,Ab]
  ·simp only [List.size_toArray,List.length_append,List.length_take,List.length_drop,Array.length_toList];rw [Array.length_toList] at A3;omega
  rw [htake,←A0];exact List.take_left
 have A4:∀ j u,xs[j]?=some u->w.drew.cell? (((a_ g):Addr).add j)=some u:=hown.cells (g:=g) rfl;have hf:=run_firstCells_some (P:=P) w.drew i.size n (a_ g) n c xs hown.1 A4;have hr:=Lib.run_append_grow_zeros (P:=P) w t tn ty e i z kq kn ht htn hi hz (some (a_ g)) n c xs hf m hm hsz o_ o_ o_ (growslice_fits o_ hbytes);have A2:=grown c o_ (Value.ownBlock (.slice (some (a_ g)) n c));exact ⟨_,_,_,hr,A2.1,A2.2,fun g hg=>.inr (by simp [Value.ownBlock] at hg;exact hg.symm)⟩
theorem run_append_zeros_t (w:World) (base:Nat) (t tn ty et:TypeId) (i:TypeInfo) (z:Value) (bytes:Nat) (kq kn:IntKind) (e:List CT) (X:NP) (K:Nat) (ht:P.underlying t=some (.slice et)) (htn:P.underlying tn=some (.int kn)) (hi:P.info? et=some i) (hz:i.zero=some z)
  (hsize:i.size=e.length) (hby:i.bytes=bytes) (hzc:z.cells=(e.map CT.zero).toArray) (hzk:e.all CT.zok=true) (hsz:0<e.length)
  (A:OA) (n c:Nat) (hown:OwT w base et e X K A n c) (m:Nat) (hX:∀ k,X k->k<w) (h63:n+m<=maxLen) (hbytes:(n+m)*bytes<=140737488355328) (hbase:base<=w) :
  ∃ A' c' w',(Builtin.append_ #[t,tn] ty #[.slice A n c,.int kq m]).run P w=.ok (.slice A' (n+m) c') w'/\OwT w' base et e X K A' (n+m) c'/\w.grownBy w' (Value.slice A n c).ownBlock ∧
   (∀ g,(Value.slice A' (n+m) c').ownBlock=some g->(Value.slice A n c).ownBlock=some g∨g=w):=by
 obtain ⟨xs,h1,h2⟩:=hown;have A0:z.cells.size=e.length:=by rw [hzc];simp
 obtain ⟨A',c',w',hr,g1,g2,g3⟩:=run_append_zeros_own (P:=P) w base t tn ty et i z e.length bytes kq kn ht htn hi hz hsize hby A0 hsz (fun u hu=>by
  rw [hzc] at hu
  simp only [List.mem_map] at hu
  obtain ⟨t,ht,rfl⟩:=hu
  exact (vt_zero (w:=w) (X:=X) K t (List.all_eq_true.1 hzk t ht)).one) A n c xs h1 m h63 hbytes hbase
 refine ⟨A',c',w',hr,own_append ⟨xs,h1,h2⟩ ⟨h1,h2⟩ (by rw [Array.length_toList,size_zeroCells,A0]) (fun k j s hk hj=>?_) hX g1 g2 g3,g2,g3⟩;have A1:=zero_at (z:=z.cells) (n:=m) (k:=k) (j:=j) (u:=s.zero) hk (by rw [hzc];simp [hj]);rw [A0] at A1;exact ⟨s.zero,A1,vt_zero K s (List.all_eq_true.1 hzk s (List.mem_of_getElem? hj))⟩
variable {w:World} {ops:Array Oper} {rest:List Oper} {o:Oper} {a:Act} {Q:Exit->Act->World->Prop}
theorem run_make_t (w:World) (base:Nat) (t et:TypeId) (i:TypeInfo) (z:Value) (bytes:Nat) (kl kc:IntKind) (e:List CT) (X:NP) (K:Nat) (ht:P.underlying t=some (.slice et)) (hi:P.info? et=some i) (hz:i.zero=some z)
  (hsize:i.size=e.length) (hby:i.bytes=bytes) (hzc:z.cells=(e.map CT.zero).toArray) (hzk:e.all CT.zok=true) (hsz:0<e.length) (m:Nat) (hX:∀ k,X k->k<w) (h63:m<=maxLen) (hbytes:bytes*m<=281474976710656) (hbase:base<=w) :
  ∃ w',(Instr.makeSlice t (.int kl (m:Int)) (.int kc (m:Int))).run P w=.ok (.slice (some (a_ w)) m m) w'/\OwT w' base et e X K (some (a_ w)) m m/\Below w w w':=by
 have A2:z.cells.size=e.length:=by rw [hzc];simp
 obtain ⟨w',hr,g1,g2⟩:=run_make_full (P:=P) w base t et i z e.length ht hi hz hsize kl kc m (by rw [hby];exact hbytes) h63 hbase;refine ⟨w',hr,⟨_,g1,fun k j s hk hj=>?_⟩,am_ g2 (l_) (fun k hk=>by cases hk)⟩;have A0:j<e.length:=(e_ hj).1;refine ⟨s.zero,?_,vt_zero K s (List.all_eq_true.1 hzk s (List.mem_of_getElem? hj))⟩;have A1:k*e.length+j<m*e.length:=by
  have:(k+1)*e.length<=m*e.length:=Nat.mul_le_mul_right _ hk;rw [Nat.add_mul] at this;omega
 have hm:(k*e.length+j) % e.length=j:=by rw [Nat.mul_comm,Nat.mul_add_mod,Nat.mod_eq_of_lt A0]
 rw [Array.getElem?_toList];unfold madeCells;simp [A1,hzc,hm,hj]
end
end Go.Proofs.YtfolidlmgfhkiaaGreat
namespace Go.Proofs.YtfolidlmgfhkiaaGreat
open Go.RowKit Go.Proofs.Tryz
theorem read_any (A:OA) (n c:Nat) (l:List Ob) (id f:Int) (w:World) (hs:Hp w w A n l) (hn:n<=9000000000000) :
  Calls prog 93 #[.agg #[.slice A n c],i_ id,i_ f] w fun e w'=>e=.returned (.tuple #[.agg #[.bool (readD id f (l.map Ob.po)).ref,i_ (readD id f (l.map Ob.po)).n],.bool (readB id f (l.map Ob.po))])/\Below w w w':=by
 have HO:=q_ hs.obs;obtain ⟨w2,A0⟩:=ex_ ((w.alloc (.cells #[.slice A n c] 35)).alloc (.cells #[.bool false,i_ 0] 38));have A7:Below w w w2:=by rw [A0];exact (bel (b_))
 have Aj:(w2:Nat)=w+2:=by rw [A0];simp
 have HC:=h_ (w2.cell? (a_ w)=some (.slice A n c)) (by rw [A0,ak_ _ _ _ _ t_,aj_ _ _ _ _ _ rfl];rfl);have Ab:=h_ (w2.cell? (a_ (w+1))=some (.bool false)) (by rw [A0,aj_ _ _ _ _ _ t_];rfl);have Ac:=h_ (w2.cell? (f_ (w+1) 1)=some (i_ 0)) (by rw [A0,aj_ _ _ _ _ _ t_];rfl);have HF:=h_ (∀ j,w2.frozen? (f_ (w+1) j)=false) (fun j=>by rw [A0,bx_ _ _ _ _ _ t_]);have Ad:=q_ (hs.sl.up A7);go_enter func93,ntmps93;go_wp2_with fail;rw [←A0];have HW:=q_ A0;clear A0;refine (index_any A n c l id w2 Ad.o hn).mono ?_;rintro e w3 ⟨rfl,A5⟩;have e0:w3.cell? (a_ w)=some (.slice A n c):=(belc A5 o_).trans HC.o;have e1:w3.cell? (a_ (w+1))=some (.bool false):=(belc A5 o_).trans Ab.o;have e2:w3.cell? (f_ (w+1) 1)=some (i_ 0):=(belc A5 o_).trans Ac.o;have f0:w3.frozen? (a_ (w+1))=false:=(belf A5 o_).trans (HF.o 0);have f1:w3.frozen? (f_ (w+1) 1)=false:=(belf A5 o_).trans (HF.o 1);have A3:Below w w w3:=A7.trans (A5.mono A7.size);rcases eh_ id (l.map Ob.po) with ⟨hi,_⟩ | ⟨i,x,hi,hx,_,_⟩
 ·obtain ⟨r1,r2⟩:=read_no (f:=f) hi;have A1:=q_ r1;have A2:=q_ r2;have HI:=h_ (idxI id (l.map Ob.po)=-1) (by rw [idxI,hi]);clear r1 r2 hi;rw [HI.o];go_wp2;refine bodyPost_ret (v:=.tuple #[.agg #[.bool false,i_ 0],.bool false]) (by simp [results,results93,go_sem,e1,e2]) rfl ?_;exact ⟨by rw [A1.o,A2.o],(bel A3)⟩
 obtain ⟨o,ho,rfl⟩:=po_at' hx;have hin:i<n:=by rw [←hs.sl.len];exact (e_ ho).1
 obtain ⟨o1,o2⟩:=HO.o o (List.mem_of_getElem? ho);obtain ⟨ab,ao,rfl,Ag,Aa⟩:=hs.sl.at_ o_;have c1:w3.cell? ⟨ab,ao+i*2+1,none⟩=some (.slice o.A o.n o.c):=(belc A3 Ag).trans (Aa i o ho 1 _ rfl);have HI:=h_ (idxI id (l.map Ob.po)=i) (by rw [idxI,hi]);have HX:=q_ hx;have A8:=q_ hi;have A9:=q_ o1.len;have Ah:¬(i:Int)<0:=by omega
 clear Aa hx ho hi;rw [HI.o];by_cases hf0:f<0
 ·obtain ⟨r1,r2⟩:=read_neg (id:=id) (l:=l.map Ob.po) hf0;have A1:=q_ r1;have A2:=q_ r2;clear r1 r2;go_wp2;refine bodyPost_ret (v:=.tuple #[.agg #[.bool false,i_ 0],.bool false]) (by simp [results,results93,go_sem,e1,e2]) rfl ?_;exact ⟨by rw [A1.o,A2.o],(bel A3)⟩
 by_cases hfn:(o.n:Int)<=f
 ·obtain ⟨r1,r2⟩:=read_far A8.o HX.o (f:=f) (by show (o.s.length:Int)<=f;rw [A9.o];exact hfn);have A1:=q_ r1;have A2:=q_ r2;clear r1 r2;go_wp2;refine bodyPost_ret (v:=.tuple #[.agg #[.bool false,i_ 0],.bool false]) (by simp [results,results93,go_sem,e1,e2]) rfl ?_;exact ⟨by rw [A1.o,A2.o],(bel A3)⟩
 obtain ⟨j,rfl⟩:∃ j:Nat,f=j:=⟨f.toNat,o_⟩;have Af:j<o.n:=by omega
 have Ai:(j:Int)<(o.n:Int):=by omega
 obtain ⟨v,hv⟩:∃ v,o.s[j]?=some v:=⟨_,ge_ (by rw [A9.o];exact Af)⟩;obtain ⟨fb,fo,Ae,A6,A4⟩:=o1.at_ o_;rw [Ae] at c1;have d0:w3.cell? ⟨fb,fo+j*2,none⟩=some (.bool v.ref):=(belc A3 A6).trans (A4 j v hv 0 _ rfl);have d1:w3.cell? ⟨fb,fo+j*2+1,none⟩=some (i_ v.n):=(belc A3 A6).trans (A4 j v hv 1 _ rfl);obtain ⟨r1,r2⟩:=read_at A8.o HX.o (j:=j) hv;have A1:=q_ r1;have A2:=q_ r2;have HV:=q_ hv;clear r1 r2 hv A4
 go_wp2;refine bodyPost_ret (v:=.tuple #[.agg #[.bool v.ref,i_ v.n],.bool true]) (by simp [results,results93,go_sem,e1,e2]) rfl ?_;exact ⟨by rw [A1.o,A2.o],(bel A3)⟩
theorem refread_any (A:OA) (n c:Nat) (l:List Ob) (id f:Int) (w:World) (hs:Hp w w A n l) (hn:n<=9000000000000) :
  Calls prog 17 #[.agg #[.slice A n c],i_ id,i_ f] w fun e w'=>e=.returned (.tuple #[.agg #[.bool (readD id f (l.map Ob.po)).ref,i_ (readD id f (l.map Ob.po)).n],.bool (readB id f (l.map Ob.po))])/\Below w w w':=by
 have HO:=q_ hs.obs;obtain ⟨w2,A0⟩:=ex_ ((w.alloc (.cells #[.slice A n c] 35)).alloc (.cells #[.bool false,i_ 0] 38));have A7:Below w w w2:=by rw [A0];exact (bel (b_))
 have Aj:(w2:Nat)=w+2:=by rw [A0];simp
 have HC:=h_ (w2.cell? (a_ w)=some (.slice A n c)) (by rw [A0,ak_ _ _ _ _ t_,aj_ _ _ _ _ _ rfl];rfl);have Ab:=h_ (w2.cell? (a_ (w+1))=some (.bool false)) (by rw [A0,aj_ _ _ _ _ _ t_];rfl);have Ac:=h_ (w2.cell? (f_ (w+1) 1)=some (i_ 0)) (by rw [A0,aj_ _ _ _ _ _ t_];rfl);have HF:=h_ (∀ j,w2.frozen? (f_ (w+1) j)=false) (fun j=>by rw [A0,bx_ _ _ _ _ _ t_]);have Ad:=q_ (hs.sl.up A7);go_enter func17,ntmps17;go_wp2_with fail;rw [←A0];have HW:=q_ A0;clear A0;refine (refat_any A n c l id w2 Ad.o hn).mono ?_;rintro e w3 ⟨rfl,A5⟩;have e0:w3.cell? (a_ w)=some (.slice A n c):=(belc A5 o_).trans HC.o;have e1:w3.cell? (a_ (w+1))=some (.bool false):=(belc A5 o_).trans Ab.o;have e2:w3.cell? (f_ (w+1) 1)=some (i_ 0):=(belc A5 o_).trans Ac.o;have f0:w3.frozen? (a_ (w+1))=false:=(belf A5 o_).trans (HF.o 0);have f1:w3.frozen? (f_ (w+1) 1)=false:=(belf A5 o_).trans (HF.o 1);have A3:Below w w w3:=A7.trans (A5.mono A7.size);rcases eh_ id (l.map Ob.po) with ⟨hi,_⟩ | ⟨i,x,hi,hx,_,_⟩
 ·obtain ⟨r1,r2⟩:=read_no (f:=f) hi;have A1:=q_ r1;have A2:=q_ r2;have HI:=h_ (idxI id (l.map Ob.po)=-1) (by rw [idxI,hi]);clear r1 r2 hi;rw [HI.o];go_wp2;refine bodyPost_ret (v:=.tuple #[.agg #[.bool false,i_ 0],.bool false]) (by simp [results,results17,go_sem,e1,e2]) rfl ?_;exact ⟨by rw [A1.o,A2.o],(bel A3)⟩
 obtain ⟨o,ho,rfl⟩:=po_at' hx;have hin:i<n:=by rw [←hs.sl.len];exact (e_ ho).1
 obtain ⟨o1,o2⟩:=HO.o o (List.mem_of_getElem? ho);obtain ⟨ab,ao,rfl,Ag,Aa⟩:=hs.sl.at_ o_;have c1:w3.cell? ⟨ab,ao+i*2+1,none⟩=some (.slice o.A o.n o.c):=(belc A3 Ag).trans (Aa i o ho 1 _ rfl);have HI:=h_ (idxI id (l.map Ob.po)=i) (by rw [idxI,hi]);have HX:=q_ hx;have A8:=q_ hi;have A9:=q_ o1.len;have Ah:¬(i:Int)<0:=by omega
 clear Aa hx ho hi;rw [HI.o];by_cases hf0:f<0
 ·obtain ⟨r1,r2⟩:=read_neg (id:=id) (l:=l.map Ob.po) hf0;have A1:=q_ r1;have A2:=q_ r2;clear r1 r2;go_wp2;refine bodyPost_ret (v:=.tuple #[.agg #[.bool false,i_ 0],.bool false]) (by simp [results,results17,go_sem,e1,e2]) rfl ?_;exact ⟨by rw [A1.o,A2.o],(bel A3)⟩
 by_cases hfn:(o.n:Int)<=f
 ·obtain ⟨r1,r2⟩:=read_far A8.o HX.o (f:=f) (by show (o.s.length:Int)<=f;rw [A9.o];exact hfn);have A1:=q_ r1;have A2:=q_ r2;clear r1 r2;go_wp2;refine bodyPost_ret (v:=.tuple #[.agg #[.bool false,i_ 0],.bool false]) (by simp [results,results17,go_sem,e1,e2]) rfl ?_;exact ⟨by rw [A1.o,A2.o],(bel A3)⟩
 obtain ⟨j,rfl⟩:∃ j:Nat,f=j:=⟨f.toNat,o_⟩;have Af:j<o.n:=by omega
 have Ai:(j:Int)<(o.n:Int):=by omega
 obtain ⟨v,hv⟩:∃ v,o.s[j]?=some v:=⟨_,ge_ (by rw [A9.o];exact Af)⟩;obtain ⟨fb,fo,Ae,A6,A4⟩:=o1.at_ o_;rw [Ae] at c1;have d0:w3.cell? ⟨fb,fo+j*2,none⟩=some (.bool v.ref):=(belc A3 A6).trans (A4 j v hv 0 _ rfl);have d1:w3.cell? ⟨fb,fo+j*2+1,none⟩=some (i_ v.n):=(belc A3 A6).trans (A4 j v hv 1 _ rfl);obtain ⟨r1,r2⟩:=read_at A8.o HX.o (j:=j) hv;have A1:=q_ r1;have A2:=q_ r2;have HV:=q_ hv;clear r1 r2 hv A4
 go_wp2;refine bodyPost_ret (v:=.tuple #[.agg #[.bool v.ref,i_ v.n],.bool true]) (by simp [results,results17,go_sem,e1,e2]) rfl ?_;exact ⟨by rw [A1.o,A2.o],(bel A3)⟩
namespace CloneObj
theorem infoE:(prog.info? 90).map (fun i=>(i.zero,i.size,i.bytes))=some (some (.agg #[i_ 0,.slice none 0 0]),2,32):=by kernel_rfl
theorem any (A:OA) (n c:Nat) (xs:VL) (w:World) (hA:A=none->n=0) (hsrc:∀ ad,A=some ad->∀ (j:Nat) (u:Value),xs[j]?=some u->w.cell? (ad.add j)=some u)
  (hl:xs.length=n*2) (hn:n<=4398046510976) (h1:∀ u ∈ xs,u.oneCell'=true) :
  Calls prog 150 #[.slice A n c] w fun e w'=>∃ A' c',e=.returned (.slice A' n c')/\w'.ownsRow w 90 2 (.slice A' n c') n xs/\Below w w w':=by
 obtain ⟨i0,hi,A5,A6,A7⟩:=info_parts infoE;have HL:=q_ hl;clear hl;cases A with
 | none =>
  obtain rfl:=hA rfl;obtain rfl:xs=[]:=List.eq_nil_of_length_eq_zero (by simpa using HL.o);have A2:=fun (w:World)=>Lib.run_eql_slice_nil (P:=prog) w 33 90 none 0 c 0 0 underlying33
  go_enter func150,ntmps150;go_wp2;go_ret;exact ⟨none,0,rfl,World.ownsRow_nil _ _ _ _,b_⟩
 | some ad =>
  have HS:=q_ (hsrc ad rfl);clear hsrc hA;have A3:∀ (j:Nat) (u:Value),xs[j]?=some u->(w.alloc (.cells #[] 90)).cell? (ad.add j)=some u:=fun j u hu=>by
   have h:=HS.o j u hu;exact (World.cell?_alloc_lt w _ _ (World.block_lt_of_cell? w _ h)).trans h
  have A4:=q_ A3;clear A3;have A2:=fun (w:World)=>Lib.run_eql_slice_nil (P:=prog) w 33 90 (some ad) n c 0 0 underlying33
  go_enter func150,ntmps150;go_wp2_with (at_builtin;refine wpList_append_own _ rfl _ _ 33 rfl w 90 i0 _ 2 32 underlying33 hi A5 A6 A7 rfl d_ _ _ _ rfl (World.ownsRow_made w #[] 0 (l_) m_ rfl) ad n c xs rfl HL.o A4.o h1 m_ o_ t_ ?_;intro v' w1 A0 A1 _);go_ret;have hz:=A1.size;rw [Nat.zero_add,List.nil_append] at A0;have hb:Below w w w1:=((b_).alloc (l_) _).grown A1 t_ (fun k hk=>by injection hk with hk;subst hk;exact l_);rcases A0.2 with ⟨rfl,h0⟩ | ⟨g,cap,cur,rfl,_⟩
  ·subst h0;exact ⟨none,0,rfl,A0,hb⟩
  exact ⟨_,_,rfl,A0,hb⟩
end CloneObj
namespace CloneVal
theorem infoE:(prog.info? 38).map (fun i=>(i.zero,i.size,i.bytes))=some (some (.agg #[.bool false,i_ 0]),2,16):=by kernel_rfl
theorem any (A:OA) (n c:Nat) (xs:VL) (w:World) (hA:A=none->n=0) (hsrc:∀ ad,A=some ad->∀ (j:Nat) (u:Value),xs[j]?=some u->w.cell? (ad.add j)=some u)
  (hl:xs.length=n*2) (hn:n<=8796093021952) (h1:∀ u ∈ xs,u.oneCell'=true) :
  Calls prog 151 #[.slice A n c] w fun e w'=>∃ A' c',e=.returned (.slice A' n c')/\w'.ownsRow w 38 2 (.slice A' n c') n xs/\Below w w w':=by
 obtain ⟨i0,hi,A5,A6,A7⟩:=info_parts infoE;have HL:=q_ hl;clear hl;cases A with
 | none =>
  obtain rfl:=hA rfl;obtain rfl:xs=[]:=List.eq_nil_of_length_eq_zero (by simpa using HL.o);have A2:=fun (w:World)=>Lib.run_eql_slice_nil (P:=prog) w 88 38 none 0 c 0 0 underlying88
  go_enter func151,ntmps151;go_wp2;go_ret;exact ⟨none,0,rfl,World.ownsRow_nil _ _ _ _,b_⟩
 | some ad =>
  have HS:=q_ (hsrc ad rfl);clear hsrc hA;have A3:∀ (j:Nat) (u:Value),xs[j]?=some u->(w.alloc (.cells #[] 38)).cell? (ad.add j)=some u:=fun j u hu=>by
   have h:=HS.o j u hu;exact (World.cell?_alloc_lt w _ _ (World.block_lt_of_cell? w _ h)).trans h
  have A4:=q_ A3;clear A3;have A2:=fun (w:World)=>Lib.run_eql_slice_nil (P:=prog) w 88 38 (some ad) n c 0 0 underlying88
  go_enter func151,ntmps151;go_wp2_with (at_builtin;refine wpList_append_own _ rfl _ _ 88 rfl w 38 i0 _ 2 16 underlying88 hi A5 A6 A7 rfl d_ _ _ _ rfl (World.ownsRow_made w #[] 0 (l_) m_ rfl) ad n c xs rfl HL.o A4.o h1 m_ o_ t_ ?_;intro v' w1 A0 A1 _);go_ret;have hz:=A1.size;rw [Nat.zero_add,List.nil_append] at A0;have hb:Below w w w1:=((b_).alloc (l_) _).grown A1 t_ (fun k hk=>by injection hk with hk;subst hk;exact l_);rcases A0.2 with ⟨rfl,h0⟩ | ⟨g,cap,cur,rfl,_⟩
  ·subst h0;exact ⟨none,0,rfl,A0,hb⟩
  exact ⟨_,_,rfl,A0,hb⟩
end CloneVal
def GivesO (x:PO) (w:World) (e:Ending) (w':World):Prop:=∃ (A:OA) (n c:Nat),e=.returned (.agg #[i_ x.id,.slice A n c])/\Hid (w'.ownsRow w 38 2 (.slice A n c) n (x.s.flatMap Val.cells))/\n=x.s.length/\Below w w w'
def getO (id:Int) (l:List PO):PO:=match idx id l with | some i=>(match l[i]? with | some x=>x | none=>⟨0,[]⟩) | none=>⟨0,[]⟩
def getB (id:Int) (l:List PO):Bool:=(idx id l).isSome
def GivesB (x:PO) (b:Bool) (w:World) (e:Ending) (w':World):Prop:=∃ (A:OA) (n c:Nat),e=.returned (.tuple #[.agg #[i_ x.id,.slice A n c],.bool b])/\n<=8796093021952/\Hid (Sl w' w' 2 Val.cells A n x.s)/\Hid (∀ ad,A=some ad->w<=ad.block)/\Below w w w'
theorem object_any (x:Ob) (w:World) (hx:Sl w w 2 Val.cells x.A x.n x.s) (hn:x.n<=8796093021952) :
  Calls prog 179 #[.agg #[i_ x.id,.slice x.A x.n x.c]] w (GivesO x.po w):=by
 obtain ⟨id,A,n,c,s⟩:=x;simp only at hx hn ⊢;obtain ⟨i0,hi,A9,Aa,Ab⟩:=info_parts CloneVal.infoE;obtain ⟨w2,A0⟩:=ex_ ((w.alloc (.cells #[i_ id,.slice A n c] 90)).alloc (.cells #[i_ 0,.slice none 0 0] 90));have A5:Below w w w2:=by rw [A0];exact (bel (b_))
 have Ac:(w2:Nat)=w+2:=by rw [A0];simp
 have c0:w2.cell? (a_ w)=some (i_ id):=by rw [A0,ak_ _ _ _ _ t_,aj_ _ _ _ _ _ rfl];rfl
 have c1:w2.cell? (f_ w 1)=some (.slice A n c):=by rw [A0,ak_ _ _ _ _ t_,aj_ _ _ _ _ _ rfl];rfl
 have d0:w2.cell? (a_ (w+1))=some (i_ 0):=by rw [A0,aj_ _ _ _ _ _ t_];rfl
 have d1:w2.cell? (f_ (w+1) 1)=some (.slice none 0 0):=by rw [A0,aj_ _ _ _ _ _ t_];rfl
 have f0:∀ j,w2.frozen? (f_ (w+1) j)=false:=fun j=>by rw [A0,bx_ _ _ _ _ _ t_]
 have f1:∀ j,w2.frozen? (f_ w j)=false:=fun j=>by rw [A0,ei_ _ _ _ _ t_,bx_ _ _ _ _ _ t_]
 have A7:=q_ (hx.up A5);have HS:=q_ (A7.o.src Val.size);have HL:=q_ hx.len;clear hx;go_enter func179,ntmps179;go_wp2_with (at_builtin;rw [←A0];refine cj_ rfl _ _ 88 rfl w2 38 i0 _ 2 16 underlying88 hi A9 Aa Ab rfl d_ (.slice none 0 0) 0 [] (by simp [Act.eval]) (World.ownsRow_nil _ _ _ _) A n c (s.flatMap Val.cells) (by simp [Act.eval]) HS.o.1 (by rw [flat_len Val.size,HL.o]) HS.o.2 (val_one s) m_ o_ (l_) ?_;intro A3 c3 w3 A2 A4 A8;have H3:=q_ A2;have A1:Below w2 w2 w3:=(b_).grown A4 (l_) (fun k hk=>by cases hk);have e0:=(belc A1 (b:=w) (o:=0) o_).trans c0;have e1:=(belc A1 (b:=w) (o:=1) o_).trans c1;have e2:=(belc A1 (b:=w+1) (o:=0) o_).trans d0;have e3:=(belc A1 (b:=w+1) (o:=1) o_).trans d1;have g0:=(belf A1 (b:=w+1) (o:=0) o_).trans (f0 0);have g1:=(belf A1 (b:=w+1) (o:=1) o_).trans (f0 1);have g2:=(belf A1 (b:=w) (o:=1) o_).trans (f1 1);clear A2 A4 A8);refine bodyPost_ret (v:=.agg #[i_ id,.slice A3 n c3]) (by simp [results,results179,go_sem,e2,e3]) rfl ?_;have A6:∀ p:Addr,p.block<w2->(Value.slice A3 n c3).ownBlock≠some p.block:=fun p hp h=>by
  have:=(an_ (own_eq (Nat.zero_add n) H3.o) h).1;omega
 refine ⟨A3,n,c3,rfl,q_ (own_mono (bw_ (bw_ (bw_ (own_eq (Nat.zero_add n) H3.o) _ (A6 _ (by show (w:Nat)<_;omega))) _ (A6 _ (by show (w:Nat)+1<_;omega))) _ (A6 _ (by show (w:Nat)+1<_;omega))) o_),HL.o.symm,?_⟩;exact (((A5.trans (A1.mono A5.size)).setCell t_ _).setCell t_ _).setCell t_ _
theorem refget_any (A:OA) (n c:Nat) (l:List Ob) (id:Int) (w:World) (hs:Hp w w.heap.size A n l) (hn:n<=9000000000000) :
  Calls prog 133 #[.agg #[.slice A n c],i_ id] w (GivesB (getO id (l.map Ob.po)) (getB id (l.map Ob.po)) w):=by
 have HO:=q_ hs.obs;obtain ⟨w2,A1⟩:=ex_ ((w.alloc (.cells #[.slice A n c] 35)).alloc (.cells #[i_ 0,.slice none 0 0] 90));have A9:Below w.heap.size w w2:=by rw [A1];exact (bel (b_))
 have Al:w2.heap.size=w.heap.size+2:=by rw [A1];simp
 have HC:=h_ (w2.cell? (a_ w.heap.size)=some (.slice A n c)) (by rw [A1,ak_ _ _ _ _ t_,aj_ _ _ _ _ _ rfl];rfl);have Ae:=h_ (w2.cell? (a_ (w.heap.size+1))=some (i_ 0)) (by rw [A1,aj_ _ _ _ _ _ t_];rfl);have Af:=h_ (w2.cell? (f_ (w.heap.size+1) 1)=some (.slice none 0 0)) (by rw [A1,aj_ _ _ _ _ _ t_];rfl);have HF:=h_ (∀ j,w2.frozen? (f_ (w.heap.size+1) j)=false) (fun j=>by rw [A1,bx_ _ _ _ _ _ t_]);have Ag:=q_ (hs.sl.up A9);go_enter func133,ntmps133;go_wp2_with fail;rw [←A1];have HW:=q_ A1;clear A1;refine (refat_any A n c l id w2 Ag.o hn).mono ?_;rintro e w3 ⟨rfl,A2⟩;have e0:w3.cell? (a_ w.heap.size)=some (.slice A n c):=(belc A2 o_).trans HC.o;have e1:w3.cell? (a_ (w.heap.size+1))=some (i_ 0):=(belc A2 o_).trans Ae.o;have e2:w3.cell? (f_ (w.heap.size+1) 1)=some (.slice none 0 0):=(belc A2 o_).trans Af.o;have f0:w3.frozen? (a_ (w.heap.size+1))=false:=(belf A2 o_).trans (HF.o 0);have f1:w3.frozen? (f_ (w.heap.size+1) 1)=false:=(belf A2 o_).trans (HF.o 1);have A3:Below w.heap.size w w3:=A9.trans (A2.mono A9.size);have Am:=A2.size;rcases eh_ id (l.map Ob.po) with ⟨hi,_⟩ | ⟨i,x,hi,hx,hxid,hfst⟩
 ·have A6:=h_ (getO id (l.map Ob.po)=⟨0,[]⟩) (by rw [getO,hi]);have A7:=h_ (getB id (l.map Ob.po)=false) (by rw [getB,hi];rfl);have HI:=h_ (idxI id (l.map Ob.po)=-1) (by rw [idxI,hi]);clear hi;rw [HI.o];go_wp2;refine bodyPost_ret (v:=.tuple #[.agg #[i_ 0,.slice none 0 0],.bool false]) (by simp [results,results133,go_sem,e1,e2]) rfl ?_;rw [A6.o,A7.o];exact ⟨none,0,0,rfl,o_,q_ Sl.nil,q_ (fun _ h=>by cases h),(bel A3)⟩
 clear hxid hfst;obtain ⟨o,ho,rfl⟩:=po_at' hx;have hin:i<n:=by rw [←hs.sl.len];exact (e_ ho).1
 obtain ⟨o1,o2⟩:=HO.o o (List.mem_of_getElem? ho);obtain ⟨ab,ao,rfl,Ac,A8⟩:=hs.sl.at_ o_;have c0:w3.cell? ⟨ab,ao+i*2,none⟩=some (i_ o.id):=(belc A3 Ac).trans (A8 i o ho 0 _ rfl);have c1:w3.cell? ⟨ab,ao+i*2+1,none⟩=some (.slice o.A o.n o.c):=(belc A3 Ac).trans (A8 i o ho 1 _ rfl);have HI:=h_ (idxI id (l.map Ob.po)=i) (by rw [idxI,hi]);have A6:=h_ (getO id (l.map Ob.po)=o.po) (by rw [getO,hi];simp only [hx]);have A7:=h_ (getB id (l.map Ob.po)=true) (by rw [getB,hi];rfl);have O3:=q_ (o1.up A3);have Ah:=q_ o1.len;have Ak:¬(i:Int)<0:=by omega
 clear A8 hx ho hi o1;rw [HI.o];go_wp2_with fail;refine (object_any o w3 O3.o o2).mono ?_;rintro e w4 ⟨A4,n4,c4,rfl,A0,Ad,A5⟩;have g1:w4.cell? (a_ (w.heap.size+1))=some (i_ 0):=(belc A5 o_).trans e1;have g2:w4.cell? (f_ (w.heap.size+1) 1)=some (.slice none 0 0):=(belc A5 o_).trans e2;have k0:w4.frozen? (a_ (w.heap.size+1))=false:=(belf A5 o_).trans f0;have k1:w4.frozen? (f_ (w.heap.size+1) 1)=false:=(belf A5 o_).trans f1;have Aj:=A3.trans (A5.mono A3.size);have Aa:=q_ Ad;clear Ad;go_wp2;refine bodyPost_ret (v:=.tuple #[.agg #[i_ o.id,.slice A4 n4 c4],.bool true]) (by simp [results,results133,go_sem,g1,g2,Ob.po]) rfl ?_;rw [A6.o,A7.o];have Ab:(Value.slice A4 n4 c4).ownBlock≠some (w.heap.size+1):=fun h=>by
  have:=(an_ A0.o h).1;omega
 refine ⟨A4,n4,c4,rfl,?_,q_ (Sl.ee_ Val.size Aa.o.symm (bw_ (bw_ A0.o _ Ab) _ Ab)),q_ (fun ad Ai=>by subst Ai;have:=(an_ A0.o (k:=ad.block) rfl).1;omega),(bel Aj)⟩;have h1:=Aa.o;have h2:o.s.length=o.n:=Ah.o;have h3:o.po.s.length=o.s.length:=rfl;omega
end Go.Proofs.YtfolidlmgfhkiaaGreat
