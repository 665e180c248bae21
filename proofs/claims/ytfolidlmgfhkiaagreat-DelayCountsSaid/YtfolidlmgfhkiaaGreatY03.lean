/- Lemmas on functions of the program, under the conditions that each states. -/
import Derived.Test.YtfolidlmgfhkiaaGreatY02
import Derived.MapKept
import Derived.Carry
set_option linter.unusedVariables false
set_option linter.unusedSimpArgs false
set_option maxRecDepth 100000
set_option maxHeartbeats 8000000
namespace Go.Proofs.YtfolidlmgfhkiaaGreat
open Go.RowKit
theorem zero_at {z:Array Value} {n k j:Nat} {u:Value} (hk:k<n) (hu:z[j]?=some u):(Builtin.zeroCells z n).toList[k*z.size+j]?=some u:=by
 obtain ⟨hj,rfl⟩:=Array.getElem?_eq_some_iff.1 hu;have A0:k*z.size+j<n*z.size:=by
  have:(k+1)*z.size<=n*z.size:=Nat.mul_le_mul_right _ hk;rw [Nat.add_mul] at this;omega
 have hm:(k*z.size+j) % z.size=j:=by rw [Nat.mul_comm,Nat.mul_add_mod,Nat.mod_eq_of_lt hj]
 rw [Array.getElem?_toList];unfold Builtin.zeroCells;rw [Array.getElem?_map,Array.getElem?_range,if_pos A0,Option.map_some,hm,getElem!_pos z j hj]
theorem zeros_one {z:Array Value} {n:Nat} (h:∀ u ∈ z.toList,u.oneCell'=true) (hz:0<z.size):∀ u ∈ (Builtin.zeroCells z n).toList,u.oneCell'=true:=fun u hu=>by
 unfold Builtin.zeroCells at hu;rw [Array.toList_map,List.mem_map] at hu;obtain ⟨i,_,rfl⟩:=hu;have hi:i % z.size<z.size:=Nat.mod_lt _ hz;rw [getElem!_pos z _ hi];exact h _ t_
section
variable {P:Program}
theorem run_append_zeros_own (w:World) (base:Nat) (t tn ty e:TypeId) (i:TypeInfo) (z:Value) (size bytes:Nat) (kq kn:IntKind) (ht:P.underlying t=some (.slice e)) (htn:P.underlying tn=some (.int kn)) (hi:P.info? e=some i) (hz:i.zero=some z)
  (hsize:i.size=size) (hby:i.bytes=bytes) (hzs:z.cells.size=size) (hsz:0<size) (h1:∀ u ∈ z.cells.toList,u.oneCell'=true)
  (A:OA) (n c:Nat) (xs:VL) (hown:w.ownsRow base e size (.slice A n c) n xs) (m:Nat)
  (h63:n+m<=maxLen) (hbytes:(n+m)*bytes<=140737488355328) (hbase:base<=w) :
  ∃ A' c' w',(Builtin.append_ #[t,tn] ty #[.slice A n c,.int kq m]).run P w=.ok (.slice A' (n+m) c') w'/\w'.ownsRow base e size (.slice A' (n+m) c') (n+m) (xs ++ (Builtin.zeroCells z.cells m).toList)/\w.grownBy w' (Value.slice A n c).ownBlock ∧
   (∀ g,(Value.slice A' (n+m) c').ownBlock=some g->(Value.slice A n c).ownBlock=some g\/g=w):=by
 subst hsize;subst hby;have A9:n+m<=9223372036854775807:=by simp only [maxLen] at h63;omega
 have hw:IntKind.i64.wrap (m:Int)=m:=by rw [IntKind.wrap_i64];omega
 have A8:¬((m:Int)<0):=by omega
 have Aj:m*i.bytes<=140737488355328:=Nat.le_trans (Nat.mul_le_mul_right _ (Nat.le_add_left m n)) hbytes;have A5:¬(281474976710656<(m:Int)*(i.bytes:Int)):=by
  rw [<-Int.natCast_mul];omega
 have Aa:(Builtin.zeroCells z.cells m).toList.length=m*i.size:=by rw [Array.length_toList,size_zeroCells,hzs]
 have A0:(xs ++ (Builtin.zeroCells z.cells m).toList).length=(n+m)*i.size:=by rw [List.length_append,hown.1,Aa,Nat.add_mul]
 rcases Nat.eq_zero_or_pos m with rfl | hm
 ·have Ah:(Builtin.zeroCells z.cells 0).toList=[]:=List.eq_nil_of_length_eq_zero (by rw [Aa];omega);refine ⟨A,c,w,?_,by rw [Ah,List.append_nil];exact hown,⟨rfl,rfl,rfl,l_,fun _ _ _=>rfl⟩,fun g hg=>.inl hg⟩;have A7:n<=c:=(ck_ hown).1;have Ac:IntKind.i64.wrap 0=0:=rfl;have Ai:¬(281474976710656<(0:Int)*(i.bytes:Int)):=by omega
  cases A with
  | none=>simp [Builtin.append_,run_underlying ht,run_underlying htn,sizeOf,typeInfo,hi,asInt,asIntOf,Ac,A7]
  | some ad=>simp [Builtin.append_,run_underlying ht,run_underlying htn,sizeOf,typeInfo,hi,asInt,asIntOf,Ac,A7,storeCells]
 have grown:∀ (A1:Nat),A1<n+m->∀ (row:Option Nat),
   (w.drew.alloc (.cells (xs.toArray ++ Builtin.zeroCells z.cells m ++ Builtin.zeroCells z.cells (grownCap w (n+m) A1 e - (n+m))) e)).ownsRow base e i.size
    (.slice (some (a_ w)) (n+m) (grownCap w (n+m) A1 e)) (n+m) (xs ++ (Builtin.zeroCells z.cells m).toList) ∧
   w.grownBy (w.drew.alloc (.cells (xs.toArray ++ Builtin.zeroCells z.cells m ++ Builtin.zeroCells z.cells (grownCap w (n+m) A1 e - (n+m))) e)) row:=by
  intro A1 ho row;have Ad:=grownCap_ge w (n+m) A1 e;have A6:grownCap w (n+m) A1 e<=maxLen:=grownCap_le_maxLen w (n+m) A1 e h63;refine ⟨⟨A0,.inr ⟨w,_,_,rfl,hbase,heap_alloc_new w.drew _,Ad,A6,?_,?_⟩⟩,⟨rfl,rfl,rfl,zk_,fun k hk _=>Below.heap_alloc _ _ _ hk⟩⟩
  ·simp only [Array.size_append,List.size_toArray,size_zeroCells,hzs,hown.1,<-Nat.add_mul]
   congr 1
   omega
  simp only [Array.toList_append];rw [<-A0];exact List.take_left
 rcases hown.2 with ⟨hA,rfl⟩ | ⟨g,cap,cur,hA,hbg,hg,A7,A6,hcs,htake⟩
 ·injection hA with q1 q2 q3;subst q1 q3;have hx:xs=[]:=List.eq_nil_of_length_eq_zero (by simpa using hown.1);subst hx;have hr:=Lib.run_append_nil_zeros (P:=P) w t tn ty e i z kq kn ht htn hi hz m hm hsz o_ o_;have A2:=grown 0 o_ (Value.ownBlock (.slice none 0 0));simp only [Nat.zero_add,List.nil_append,Array.empty_append] at A2 ⊢;exact tt_
 injection hA with q1 q2 q3;subst q1 q3;by_cases hroom:n+m<=c
 ·have A3:n*i.size+(Builtin.zeroCells z.cells m).toList.length<=cur.size:=by rw [Aa,hcs,<-Nat.add_mul];exact Nat.mul_le_mul_right _ hroom
  have Ab:=run_storeCells_at P g (n*i.size) e (Builtin.zeroCells z.cells m).toList 0 cur w hg (by simpa using A3) (zeros_one h1 (by rw [hzs];exact hsz));simp only [Nat.add_zero] at Ab;have Af:¬(m*i.size=0):=Nat.mul_ne_zero o_ o_;refine ⟨some (a_ g),c,w.setRow g (cur.toList.take (n*i.size) ++ (Builtin.zeroCells z.cells m).toList ++ cur.toList.drop (n*i.size+(Builtin.zeroCells z.cells m).toList.length)).toArray,?_,⟨A0,.inr ⟨g,c,_,rfl,hbg,setRow_heap w g cur _ e _ hg,hroom,A6,?_,?_⟩⟩,⟨rfl,rfl,rfl,zk_,fun k _ hk=>setRow_other w g k _ (fun e=>hk (by simp [Value.ownBlock,e]))⟩,fun q hq=>.inl hq⟩
  ·have Ae:m≠0:=by omega
   have Ag:i.size≠0:=by omega
   simp [Builtin.append_,run_underlying ht,run_underlying htn,sizeOf,typeInfo,zeroValue,hi,hz,asInt,asIntOf,hw,A8,A5,Af,Ae,Ag,hroom,Addr.add_lit,Ab]
  ·simp only [List.size_toArray,List.length_append,List.length_take,List.length_drop,Array.length_toList];rw [Array.length_toList] at A3;omega
  rw [htake,<-A0];exact List.take_left
 have A4:∀ j u,xs[j]?=some u->w.drew.cell? (((a_ g):Addr).add j)=some u:=hown.cells (g:=g) rfl;have hf:=run_firstCells_some (P:=P) w.drew i.size n (a_ g) n c xs hown.1 A4;have hr:=Lib.run_append_grow_zeros (P:=P) w t tn ty e i z kq kn ht htn hi hz (some (a_ g)) n c xs hf m hm hsz o_ o_ o_ (growslice_fits o_ hbytes);have A2:=grown c o_ (Value.ownBlock (.slice (some (a_ g)) n c));exact tt_
theorem run_append_zeros_t (w:World) (base:Nat) (t tn ty et:TypeId) (i:TypeInfo) (z:Value) (bytes:Nat) (kq kn:IntKind) (e:List CT) (X:NP) (K:Nat) (ht:P.underlying t=some (.slice et)) (htn:P.underlying tn=some (.int kn)) (hi:P.info? et=some i) (hz:i.zero=some z)
  (hsize:i.size=e.length) (hby:i.bytes=bytes) (hzc:z.cells=(e.map CT.zero).toArray) (hzk:e.all CT.zok=true) (hsz:0<e.length)
  (A:OA) (n c:Nat) (hown:OwT w base et e X K A n c) (m:Nat) (hX:∀ k,X k->k<w) (h63:n+m<=maxLen) (hbytes:(n+m)*bytes<=140737488355328) (hbase:base<=w) :
  ∃ A' c' w',(Builtin.append_ #[t,tn] ty #[.slice A n c,.int kq m]).run P w=.ok (.slice A' (n+m) c') w'/\OwT w' base et e X K A' (n+m) c'/\w.grownBy w' (Value.slice A n c).ownBlock ∧
   (∀ g,(Value.slice A' (n+m) c').ownBlock=some g->(Value.slice A n c).ownBlock=some g\/g=w):=by
 obtain ⟨xs,h1,h2⟩:=hown;have A0:z.cells.size=e.length:=by rw [hzc];simp
 obtain ⟨A',c',w',hr,g1,g2,g3⟩:=run_append_zeros_own (P:=P) w base t tn ty et i z e.length bytes kq kn ht htn hi hz hsize hby A0 hsz (fun u hu=>by
  rw [hzc] at hu
  simp only [List.mem_map] at hu
  obtain ⟨t,ht,rfl⟩:=hu
  exact (vt_zero (w:=w) (X:=X) K t (List.all_eq_true.1 hzk t ht)).one) A n c xs h1 m h63 hbytes hbase
 refine ⟨A',c',w',hr,own_append ⟨xs,h1,h2⟩ ⟨h1,h2⟩ (by rw [Array.length_toList,size_zeroCells,A0]) (fun k j s hk hj=>?_) hX g1 g2 g3,g2,g3⟩;have A1:=zero_at (z:=z.cells) (n:=m) (k:=k) (j:=j) (u:=s.zero) hk (by rw [hzc];simp [hj]);rw [A0] at A1;exact ⟨s.zero,A1,vt_zero K s (List.all_eq_true.1 hzk s (List.mem_of_getElem? hj))⟩
variable {w:World} {ops:Array Oper} {rest:List Oper} {o:Oper} {a:Act} {Q:Exit->Act->World->Prop}
theorem run_make_t (w:World) (base:Nat) (t et:TypeId) (i:TypeInfo) (z:Value) (bytes:Nat) (kl kc:IntKind) (e:List CT) (X:NP) (K:Nat) (ht:P.underlying t=some (.slice et)) (hi:P.info? et=some i) (hz:i.zero=some z)
  (hsize:i.size=e.length) (hby:i.bytes=bytes) (hzc:z.cells=(e.map CT.zero).toArray) (hzk:e.all CT.zok=true) (hsz:0<e.length) (m:Nat) (hX:∀ k,X k->k<w) (h63:m<=maxLen) (hbytes:bytes*m<=281474976710656) (hbase:base<=w) :
  ∃ w',(Instr.makeSlice t (.int kl (m:Int)) (.int kc (m:Int))).run P w=.ok (.slice (some (a_ w)) m m) w'/\OwT w' base et e X K (some (a_ w)) m m/\Below w w w':=by
 have A2:z.cells.size=e.length:=by rw [hzc];simp
 obtain ⟨w',hr,g1,g2⟩:=run_make_full (P:=P) w base t et i z e.length ht hi hz hsize kl kc m (by rw [hby];exact hbytes) h63 hbase;refine ⟨w',hr,⟨_,g1,fun k j s hk hj=>?_⟩,al_ g2 (l_) (fun k hk=>by cases hk)⟩;have A0:j<e.length:=(e_ hj).1;refine ⟨s.zero,?_,vt_zero K s (List.all_eq_true.1 hzk s (List.mem_of_getElem? hj))⟩;have A1:k*e.length+j<m*e.length:=by
  exact ue_
 have hm:(k*e.length+j) % e.length=j:=by rw [Nat.mul_comm,Nat.mul_add_mod,Nat.mod_eq_of_lt A0]
 rw [Array.getElem?_toList];unfold madeCells;simp [A1,hzc,hm,hj]
end
end Go.Proofs.YtfolidlmgfhkiaaGreat
namespace Go.Proofs.YtfolidlmgfhkiaaGreat
open Go.RowKit Go.Proofs.Tryz
structure Cl where
 id:Int
 field:Int
 ref:Bool
 n:Int
structure Dl where
 id:Int
 field:Int
 op:Int
 ref:Bool
 n:Int
def RIdx (n:Nat) (e:Ending):Prop:=∃ q:Int,e=.returned (i_ q)/\Hid (q=-1\/∃ k:Nat,k<n/\q=(k:Int))
section
variable {X:NP} {w:World} {K n c k:Nat} {A:OA}
theorem SlT.at0 {e:List CT} (h:SlT w X K e A n c) (hk:k<n):∃ g o,A=some (f_ g o)/\g<w/\∃ vs,VTs w X K e vs/\∀ w',Below w w w'->∀ j u,vs[j]?=some u->w'.cell? ⟨g,o+k*e.length+j,none⟩=some u:=by
 obtain ⟨g,o,hA,hg,hX,vs,hv,hm⟩:=h.mt hk;exact ⟨g,o,hA,hg,vs,hv,fun w' hb j u hu=>(belc hb hg).trans (hm j u hu)⟩
theorem SlT.num_at (h:SlT w X K [.num] A n c) (hk:k<n):∃ g o,A=some (f_ g o)/\g<w/\∃ x:Int,∀ w',Below w w w'->w'.cell? ⟨g,o+k,none⟩=some (i_ x):=by
 obtain ⟨g,o,hA,hg,vs,hv,hm⟩:=h.at0 hk;obtain ⟨a,r1,rfl,ha,h1⟩:=hv.head;obtain ⟨a,rfl⟩:=ha.int;exact ⟨g,o,hA,hg,a,fun w' hb=>by have:=hm w' hb 0 _ rfl;simpa using this⟩
theorem SlT.ds_ (h:SlT w X K aq_ A n c) (hk:k<n):∃ g o,A=some (f_ g o)/\g<w/\∃ x:Cl,∀ w',Below w w w' →
  (w'.cell? ⟨g,o+k*4,none⟩=some (i_ x.id)/\w'.cell? ⟨g,o+k*4+1,none⟩=some (i_ x.field)/\w'.cell? ⟨g,o+k*4+2,none⟩=some (.bool x.ref)/\w'.cell? ⟨g,o+k*4+3,none⟩=some (i_ x.n)):=by
 obtain ⟨g,o,hA,hg,vs,hv,hm⟩:=h.at0 hk;obtain ⟨a,r1,rfl,ha,h1⟩:=hv.head;obtain ⟨b,r2,rfl,hb,h2⟩:=h1.head;obtain ⟨c,r3,rfl,hc,h3⟩:=h2.head;obtain ⟨d,r4,rfl,hd,h4⟩:=h3.head;obtain ⟨a,rfl⟩:=ha.int;obtain ⟨b,rfl⟩:=hb.int;obtain ⟨c,rfl⟩:=hc.bool;obtain ⟨d,rfl⟩:=hd.int;exact ⟨g,o,hA,hg,⟨a,b,c,d⟩,fun w' hw=>⟨hm w' hw 0 _ rfl,hm w' hw 1 _ rfl,hm w' hw 2 _ rfl,hm w' hw 3 _ rfl⟩⟩
theorem SlT.delta_at (h:SlT w X K bn_ A n c) (hk:k<n):∃ g o,A=some (f_ g o)/\g<w/\∃ x:Dl,∀ w',Below w w w' →
  (w'.cell? ⟨g,o+k*5,none⟩=some (i_ x.id)/\w'.cell? ⟨g,o+k*5+1,none⟩=some (i_ x.field)/\w'.cell? ⟨g,o+k*5+2,none⟩=some (i_ x.op)/\w'.cell? ⟨g,o+k*5+3,none⟩=some (.bool x.ref)/\w'.cell? ⟨g,o+k*5+4,none⟩=some (i_ x.n)):=by
 obtain ⟨g,o,hA,hg,vs,hv,hm⟩:=h.at0 hk;obtain ⟨a,r1,rfl,ha,h1⟩:=hv.head;obtain ⟨b,r2,rfl,hb,h2⟩:=h1.head;obtain ⟨c,r3,rfl,hc,h3⟩:=h2.head;obtain ⟨d,r4,rfl,hd,h4⟩:=h3.head;obtain ⟨f,r5,rfl,hf,h5⟩:=h4.head;obtain ⟨a,rfl⟩:=ha.int;obtain ⟨b,rfl⟩:=hb.int;obtain ⟨c,rfl⟩:=hc.int;obtain ⟨d,rfl⟩:=hd.bool;obtain ⟨f,rfl⟩:=hf.int;exact ⟨g,o,hA,hg,⟨a,b,c,d,f⟩,fun w' hw=>⟨hm w' hw 0 _ rfl,hm w' hw 1 _ rfl,hm w' hw 2 _ rfl,hm w' hw 3 _ rfl,hm w' hw 4 _ rfl⟩⟩
theorem SlT.obj_at (h:SlT w X K objT A n c) (hk:k<n):∃ g o,A=some (f_ g o)/\g<w/\∃ x:Ob,SlT w X K valT x.A x.n x.c/\Sl w w 2 Val.cells x.A x.n x.s/\∀ w',Below w w w' →
  (w'.cell? ⟨g,o+k*2,none⟩=some (i_ x.id)/\w'.cell? ⟨g,o+k*2+1,none⟩=some (.slice x.A x.n x.c)):=by
 obtain ⟨g,o,hA,hg,vs,hv,hm⟩:=h.at0 hk;obtain ⟨x,rfl,h1,h2⟩:=hv.obj;exact ⟨g,o,hA,hg,x,h1,h2,fun w' hw=>⟨hm w' hw 0 _ rfl,hm w' hw 1 _ rfl⟩⟩
end
theorem at_t (X:NP) (K:Nat) (A:OA) (n c:Nat) (id f:Int) (w:World) (h:SlT w X K aq_ A n c) (hK:K<=4398046510976) :
  Calls prog 131 #[.slice A n c,i_ id,i_ f] w fun e w'=>RIdx n e/\Below w w w':=by
 have H:=q_ h;have hn:n<=4398046510976:=Nat.le_trans h.le hK;clear h;go_enter func131,ntmps131;go_upto_region 2 with fail;go_loopw [11] (fun i wr=>∃ k:Nat,k<=n/\i=i_ k/\Below w w wr) (fun i _=>n - (intOf i).toNat)
 case atStart=>exact ⟨0,o_,rfl,b_⟩
 obtain ⟨k,hk,rfl,hb⟩:=hrel;have A1:=hb.size;by_cases hlt:k<n
 ·have A0:(k:Int)<(n:Int):=by omega
  obtain ⟨g,o,rfl,hg,x,hx⟩:=H.o.ds_ hlt;obtain ⟨c0,c1,c2,c3⟩:=hx wr hb;have HB:=q_ hb;have HR:=h_ (RIdx n (.returned (i_ (k:Int)))) (⟨_,rfl,q_ (.inr ⟨k,hlt,rfl⟩)⟩);clear hx hb;go_wp2;all_goals first
   | (go_ret;exact ⟨HR.o,(bel HB.o)⟩)
   | (go_roundw
      case rel=>exact ⟨k+1,o_,za_,(bel HB.o)⟩
      case measure=>exact me_)
 have A0:¬(k:Int)<(n:Int):=by omega
 go_wp2;go_ret;exact ⟨⟨_,rfl,q_ (.inl rfl)⟩,hb⟩
end Go.Proofs.YtfolidlmgfhkiaaGreat
namespace Go.Proofs.YtfolidlmgfhkiaaGreat
open Go.RowKit Go.MapKept
def dc_ (w:World) (b:Nat):Prop:=∃ es clock,w.heap[b]?=some (.map es clock)/\∀ x ∈ es.toList,IsKey (.int .i64) x.key/\∃ t:Bool,x.val=.bool t
theorem dc_.made (w:World):dc_ (w.alloc (.map #[] 0)) w:=⟨#[],0,(MapKept.heap_alloc w _).1,fun x hx=>by simp at hx⟩
theorem dc_.lt {w:World} {b:Nat} (h:dc_ w b):b<w:=by
 obtain ⟨es,A0,hb,_⟩:=h;rcases Nat.lt_or_ge b w with h | h
 ·exact h
 rw [Array.getElem?_eq_none h] at hb;cases hb
theorem dc_.below {w w':World} {b:Nat} (h:dc_ w b) (hb:Below w w w'):dc_ w' b:=by
 have A1:=h.lt;obtain ⟨es,A0,h1,h2⟩:=h;exact ⟨es,A0,(hb.block b A1).trans h1,h2⟩
theorem dc_.look {w:World} {b:Nat} (h:dc_ w b) (k:Int):∃ t:Bool,(Instr.lookup 235 (.map (some b)) (i_ k) false).run Tryz.prog w=.ok (.bool t) w:=by
 obtain ⟨es,A0,hb,A1⟩:=h;have hk:IsKey (.int .i64) (i_ k):=rfl;have hz:(zeroValue 4).run Tryz.prog w=.ok (.bool false) w:=by kernel_rfl
 rcases MapKept.findNow_spec hk es.toList 0 (fun x hx=>(A1 x hx).1) with ⟨h1,h2⟩ | ⟨j,e,h1,h2,h3⟩
 ·exact ⟨false,by simp [Instr.lookup,run_underlying Tryz.underlying235,MapKept.run_getObj_map hb,MapKept.run_checkKey Tryz.underlying2 hk,MapKept.run_findKey Tryz.underlying2 h1,hz,Result.andThen]⟩
 obtain ⟨t,ht⟩:=(A1 e (List.mem_of_getElem? h2)).2;exact ⟨t,by simp [Instr.lookup,run_underlying Tryz.underlying235,MapKept.run_getObj_map hb,MapKept.run_checkKey Tryz.underlying2 hk,MapKept.run_findKey Tryz.underlying2 h1,ht,Result.andThen]⟩
theorem dc_.put {w:World} {b:Nat} (h:dc_ w b) (k:Int) (v:Bool):∃ w',(Instr.mapUpdate 235 (.map (some b)) (i_ k) (.bool v)).run Tryz.prog w=.ok () w'/\dc_ w' b/\w.grownBy w' (some b):=by
 obtain ⟨es,A0,hb,A1⟩:=h;have hk:IsKey (.int .i64) (i_ k):=rfl;rcases MapKept.findNow_spec hk es.toList 0 (fun x hx=>(A1 x hx).1) with ⟨h1,h2⟩ | ⟨j,e,h1,h2,h3⟩
 ·refine ⟨{ w with heap:=w.heap.setIfInBounds b (.map (es.push { key:=i_ k,val:=.bool v,born:=A0 }) (A0+1)) },by simp [Instr.mapUpdate,run_underlying Tryz.underlying235,MapKept.run_getObj_map hb,MapKept.run_checkKey Tryz.underlying2 hk,MapKept.run_findKey Tryz.underlying2 h1,MapKept.run_setObj_map _ hb,Result.andThen],⟨_,_,(MapKept.heap_set hb).1,fun x hx=>?_⟩,⟨rfl,rfl,rfl,zk_,fun i _ hi=>(MapKept.heap_set hb).2 i (fun e=>hi xy_)⟩⟩;simp only [Array.toList_push,List.mem_append,List.mem_singleton] at hx;rcases hx with hx | rfl
  ·exact A1 x hx
  exact ⟨rfl,v,rfl⟩
 have hj:es[j]?=some e:=by simpa using h2
 refine ⟨{ w with heap:=w.heap.setIfInBounds b (.map (es.modify j fun e=>{ key:=i_ k,val:=.bool v,born:=e.born }) A0) },by simp [Instr.mapUpdate,run_underlying Tryz.underlying235,MapKept.run_getObj_map hb,MapKept.run_checkKey Tryz.underlying2 hk,MapKept.run_findKey Tryz.underlying2 h1,hj,h3,MapKept.run_keyThatStays hk,MapKept.run_setObj_map _ hb,Result.andThen],⟨_,_,(MapKept.heap_set hb).1,fun x hx=>?_⟩,⟨rfl,rfl,rfl,zk_,fun i _ hi=>(MapKept.heap_set hb).2 i (fun e=>hi xy_)⟩⟩;obtain ⟨i,hi⟩:=List.getElem?_of_mem hx;rw [Array.getElem?_toList,Array.getElem?_modify] at hi;by_cases hij:j=i
 ·subst hij;rw [if_pos rfl,hj] at hi;simp at hi;subst hi;exact ⟨rfl,v,rfl⟩
 rw [if_neg hij] at hi;exact A1 x (List.mem_of_getElem? (i:=i) (by rw [Array.getElem?_toList];exact hi))
end Go.Proofs.YtfolidlmgfhkiaaGreat
namespace Go.Proofs.YtfolidlmgfhkiaaGreat.Dl
open Go.RowKit Go.Proofs.Tryz
theorem cmpP_neg {x:Pr} {a b:Int} (h:Bef x a b):cmpP x a b=-1:=by
 unfold Bef at h;unfold cmpP orI;rcases h with h | ⟨h,h2⟩
 ·have:cmpI x.a a=-1:=by simp [cmpI,h]
  simp [this]
 have e:cmpI x.a a=0:=by simp only [cmpI];rw [if_neg o_,if_neg o_]
 have:cmpI x.b b=-1:=by simp [cmpI,h2]
 simp [e,this]
theorem cmpP_nn {x:Pr} {a b:Int} (h:¬Bef x a b):(cmpP x a b=0/\isB x a b=true)\/(cmpP x a b=1/\isB x a b=false):=by
 unfold Bef at h;unfold cmpP orI isB;by_cases h1:x.a=a
 ·have e:cmpI x.a a=0:=by simp only [cmpI];rw [if_neg o_,if_neg o_]
  rw [if_pos e];by_cases h2:x.b=b
  ·left;refine ⟨?_,by simp [h1,h2]⟩;simp only [cmpI];rw [if_neg o_,if_neg o_]
  right;refine ⟨?_,by simp [h2]⟩;simp only [cmpI];rw [if_neg o_,if_pos o_]
 have e:cmpI x.a a=1:=by simp only [cmpI];rw [if_neg o_,if_pos o_]
 right;refine ⟨by rw [if_neg o_];exact e,by simp [h1]⟩
theorem bsearch_any (A:OA) (n c:Nat) (l:List Pr) (ma mb:Int) (w:World) (hs:Sl w w 3 Pr.cells A n l) (hasc:Sorted l) (hn:n<=1000000) :
  Calls prog 103 #[.slice A n c,.agg #[i_ ma,i_ mb,i_ 0],.func (.func 104) #[] #[]] w fun e w'=>e=.returned (.tuple #[i_ (lowb l ma mb),.bool (hit l ma mb)])/\Below w w w':=by
 have HL:=q_ hs.len;have HA:=q_ hasc;clear hasc;obtain ⟨W,hW⟩:=ex_ (w.alloc (.cells #[i_ ma,i_ mb,i_ 0] 85));have Ag:Below w w W:=by rw [hW];exact (b_).alloc (l_) _
 have Ac:(w:Nat)<W:=by rw [hW];simp
 have T0:=h_ (W.cell? (a_ w)=some (i_ ma)) zn_;have T1:=h_ (W.cell? (f_ w 1)=some (i_ mb)) zn_;have T2:=h_ (W.cell? (f_ w 2)=some (i_ 0)) zn_;go_enter func103,ntmps103;go_wp2_with fail;rw [<-hW];clear hW;go_loopw [9,10,11] (fun i j h wr=>∃ a b:Nat,a<=b/\b<=n/\i=i_ a/\j=i_ b/\Hid (∀ (k:Nat) (x:Pr),k<a->l[k]?=some x->Bef x ma mb)/\Hid (∀ (k:Nat) (x:Pr),b<=k->l[k]?=some x->¬Bef x ma mb)/\Below W W wr) (fun i j _ _=>(intOf j).toNat - (intOf i).toNat)
 case atStart=>exact ⟨0,n,o_,o_,rfl,rfl,by intro k x h;omega,by intro k x h hx;have:=(e_ hx).1;rw [HL.o] at this;omega,b_⟩
 obtain ⟨a,b,Ap,Aq,rfl,rfl,Aj,Ab,hb⟩:=hrel;have t0:=(belc hb Ac).trans T0.o;have t1:=(belc hb Ac).trans T1.o;have t2:=(belc hb Ac).trans T2.o;have A6:(w:Nat)<wr:=by have:=hb.size;omega
 have A4:Below w w wr:=Ag.trans (hb.mono Ag.size);by_cases hlt:a<b
 ·have Al:(a:Int)<b:=by omega
  obtain ⟨h,hh⟩:∃ h:Nat,h=(a+b) / 2:=⟨_,rfl⟩;have Am:((a:Int)+(b:Int)) / 2=(h:Int):=by omega
  have h0:a<=h:=by omega
  have h1:h<b:=by omega
  obtain ⟨ab,ao,rfl,A1,A5⟩:=hs.at_ o_;obtain ⟨x,hx⟩:∃ x,l[h]?=some x:=⟨_,ge_ yp_⟩;have c0:wr.cell? ⟨ab,ao+h*3,none⟩=some (i_ x.a):=(belc A4 A1).trans (A5 h x hx 0 _ rfl);have c1:wr.cell? ⟨ab,ao+h*3+1,none⟩=some (i_ x.b):=(belc A4 A1).trans (A5 h x hx 1 _ rfl);have c2:wr.cell? ⟨ab,ao+h*3+2,none⟩=some (i_ x.cnt):=(belc A4 A1).trans (A5 h x hx 2 _ rfl);have HX:=q_ hx;have As:(h:Int)<(n:Int):=by omega
  have Ar:(0:Int)<=(h:Int):=by omega
  clear A5 hx hh;obtain ⟨z,hz⟩:=ex_ (cmpP x ma mb);have HZ:=q_ hz;clear hz;go_upto_region 5 with fail;go_cut [31] (fun An wx=>An=.bool (decide (z<0))/\Hid (Below wr wr wx))
  case first =>
   go_region_held3 (fun w'=>w'.cell? ⟨ab,ao+h*3,none⟩=some (i_ x.a)/\w'.cell? ⟨ab,ao+h*3+1,none⟩=some (i_ x.b)/\w'.cell? ⟨ab,ao+h*3+2,none⟩=some (i_ x.cnt)/\w'.cell? (a_ w)=some (i_ ma)/\w'.cell? (f_ w 1)=some (i_ mb)/\w'.cell? (f_ w 2)=some (i_ 0))
    (first | exact ⟨c0,c1,c2,t0,t1,t2⟩ | exact ⟨A8,A9,Aa,Ad,Ae,Af⟩)
    (first | (go_at_call 104;refine (compare_any x ma mb 0 wr.drew).mono ?_;rintro e w1 ⟨rfl,A0⟩;rw [<-HZ.o];have A0:Below wr wr w1:=(Below.drew (b_)).trans A0;have A2:ab<wr:=lt_ A1 A4.size;have A8:=(belc A0 A2).trans c0;have A9:=(belc A0 A2).trans c1;have Aa:=(belc A0 A2).trans c2;have Ad:=(belc A0 A6).trans t0;have Ae:=(belc A0 A6).trans t1;have Af:=(belc A0 A6).trans t2))
   all_goals
    go_wp2_with fail;go_meet;exact ⟨rfl,A0⟩
  obtain ⟨rfl,Ah⟩:=hcut
  rename World=>w1
  by_cases hxm:Bef x ma mb
  ·have g:decide (z<0)=true:=by rw [HZ.o,cmpP_neg hxm];rfl
   have A7:=q_ hxm;rw [g];clear hxm g;go_wp2;go_roundw
   case rel =>
    refine ⟨h+1,b,o_,o_,za_,rfl,fun k y hk hy=>?_,Ab,hb.trans (Ah.o.mono hb.size)⟩;by_cases hkh:k=h
    ·subst hkh;rw [HX.o] at hy;injection hy with hy;subst hy;exact A7.o
    have h1:=HA.o k h y x o_ hy HX.o;have h2:=A7.o;unfold Bef at *;omega
   case measure=>exact me_
  have g:decide (z<0)=false:=by rw [HZ.o];rcases cmpP_nn hxm with ⟨e,_⟩ | ⟨e,_⟩ <;> rw [e] <;> rfl
  have A7:=q_ hxm;rw [g];clear hxm g;go_wp2;go_roundw
  case rel =>
   refine ⟨a,h,o_,o_,rfl,za_,Aj,fun k y hk hy=>?_,hb.trans (Ah.o.mono hb.size)⟩;by_cases hkh:k=h
   ·subst hkh;rw [HX.o] at hy;injection hy with hy;subst hy;exact A7.o
   have h1:=HA.o h k x y o_ HX.o hy;have h2:=A7.o;unfold Bef at *;omega
  case measure=>exact me_
 obtain rfl:a=b:=by omega
 have A3:lowb l ma mb=a:=lowb_of yp_ Aj.o (fun x hx=>Ab.o a x (l_) hx);by_cases han:a<n
 ·have Ak:(a:Int)<n:=by omega
  obtain ⟨ab,ao,rfl,A1,A5⟩:=hs.at_ o_;obtain ⟨x,hx⟩:∃ x,l[a]?=some x:=⟨_,ge_ yp_⟩;have c0:wr.cell? ⟨ab,ao+a*3,none⟩=some (i_ x.a):=(belc A4 A1).trans (A5 a x hx 0 _ rfl);have c1:wr.cell? ⟨ab,ao+a*3+1,none⟩=some (i_ x.b):=(belc A4 A1).trans (A5 a x hx 1 _ rfl);have c2:wr.cell? ⟨ab,ao+a*3+2,none⟩=some (i_ x.cnt):=(belc A4 A1).trans (A5 a x hx 2 _ rfl);have Ai:¬Bef x ma mb:=Ab.o a x (l_) hx;obtain ⟨z,hz⟩:=ex_ (cmpP x ma mb);have HT:=q_ (show hit l ma mb=(z == 0) by
   rw [hit_at (by rw [A3];exact hx),hz]
   rcases cmpP_nn Ai with ⟨e,f⟩ | ⟨e,f⟩ <;> rw [e,f] <;> rfl)
  have HP:=q_ A3;have HZ:=q_ hz;have Ao:(0:Int)<=(a:Int):=by omega
  clear A5 hx A3 Ai hz;go_wp2_with fail;go_region_held3 (fun w'=>w'.cell? ⟨ab,ao+a*3,none⟩=some (i_ x.a)/\w'.cell? ⟨ab,ao+a*3+1,none⟩=some (i_ x.b)/\w'.cell? ⟨ab,ao+a*3+2,none⟩=some (i_ x.cnt)/\w'.cell? (a_ w)=some (i_ ma)/\w'.cell? (f_ w 1)=some (i_ mb)/\w'.cell? (f_ w 2)=some (i_ 0))
   (first | exact ⟨c0,c1,c2,t0,t1,t2⟩ | exact ⟨A8,A9,Aa,Ad,Ae,Af⟩)
   (first | (go_at_call 104;refine (compare_any x ma mb 0 wr.drew).mono ?_;rintro e w1 ⟨rfl,A0⟩;rw [<-HZ.o];have A0:Below wr wr w1:=(Below.drew (b_)).trans A0;have A2:ab<wr:=lt_ A1 A4.size;have A8:=(belc A0 A2).trans c0;have A9:=(belc A0 A2).trans c1;have Aa:=(belc A0 A2).trans c2;have Ad:=(belc A0 A6).trans t0;have Ae:=(belc A0 A6).trans t1;have Af:=(belc A0 A6).trans t2))
  all_goals
   go_wp2;go_ret2;exact ⟨by rw [HT.o,HP.o];rfl,A4.trans (A0.mono A4.size)⟩
 obtain rfl:a=n:=by omega
 have HT:=h_ (hit l ma mb=false) (hit_none (by rw [A3,HL.o];exact l_));have HP:=q_ A3;clear A3;go_wp2;go_quiet (fail);go_wp2;go_ret2;exact ⟨by rw [HT.o,HP.o];rfl,below_drewN A4 _⟩
theorem search_any (A:OA) (n c:Nat) (l:List Pr) (a b:Int) (w:World) (hs:Sl w w 3 Pr.cells A n l) (hasc:Sorted l) (hn:n<=1000000) :
  Calls prog 65 #[.agg #[.slice A n c],i_ a,i_ b] w fun e w'=>e=.returned (.tuple #[i_ (lowb l a b),.bool (hit l a b)])/\Below w w w':=by
 go_enter func65,ntmps65;go_wp2_with fail;refine (bsearch_any A n c l a b _ ((hs.below ((b_).alloc (l_) _)).mono t_) hasc hn).mono ?_;rintro e w1 ⟨rfl,A0⟩;have hb:Below w w w1:=((b_).alloc (l_) _).trans (A0.mono t_);go_wp2;go_ret2;exact ⟨rfl,hb⟩
theorem dz_ (A:OA) (n c:Nat) (ts:List Pr) (a b:Int) (w:World) (hs:Sl w w 3 Pr.cells A n ts) (hsort:Sorted ts) (hn:n<=1000000) :
  Calls prog 30 #[.agg #[.slice A n c],i_ a,i_ b] w fun e w'=>e=.returned (i_ (countP ts a b))/\Below w w w':=by
 have HS:=q_ hsort;have HN:=q_ hs.len;clear hsort;go_enter func30,ntmps30;go_wp2_with fail;refine (search_any A n c ts a b _ ((hs.below ((b_).alloc (l_) _)).mono t_) HS.o hn).mono ?_;rintro e w' ⟨rfl,hb⟩;have A0:Below w w w':=((b_).alloc (l_) _).trans (hb.mono t_);have hz:=hb.size;simp only [World.size_alloc] at hz;have hp:w'.cell? (a_ w)=some (.slice A n c):=(hb.cell (p:=(a_ w)) t_).trans t_;by_cases hh:hit ts a b=true
 ·obtain ⟨t,ht,_,_⟩:=hit_some hh;have A2:lowb ts a b<n:=by rw [<-HN.o];exact (e_ ht).1
  have HV:=q_ (count_hit ht hh);obtain ⟨k,hk⟩:=ex_ (lowb ts a b);rw [<-hk] at ht A2;rw [<-hk];obtain ⟨ab,ao,rfl,A3,A1⟩:=hs.at_ o_;have c1:w'.cell? ⟨ab,ao+k*3+2,none⟩=some (i_ t.cnt):=(A0.cell (p:=(f_ ab _)) A3).trans (A1 k t ht 2 _ rfl);have HH:=q_ hh;clear ht A1 hk hh;rw [HH.o];go_wp2;go_ret;exact ⟨x6_,A0⟩
 have hh:hit ts a b=false:=by simpa using hh
 have HV:=q_ (count_miss hh);have HH:=q_ hh;clear hh;rw [HH.o];go_wp2;go_ret;exact ⟨x6_,A0⟩
end Go.Proofs.YtfolidlmgfhkiaaGreat.Dl
namespace Go.Proofs.YtfolidlmgfhkiaaGreat
open Go.RowKit
def OwP (w:World) (base:Nat) (et:TypeId) (p:VL->Prop) (e:List CT) (X:NP) (K:Nat) (A:OA) (n c:Nat):Prop :=
 ∃ xs,w.ownsRow base et e.length (.slice A n c) n xs/\∀ k,k<n->∃ vs,VTs w (Wi X (Value.slice A n c).ownBlock) K e vs/\(∀ j u,vs[j]?=some u->xs[k*e.length+j]?=some u)/\p vs
section
variable {X Y:NP} {w w':World} {K K' base n m c d:Nat} {et:TypeId} {p:VL->Prop} {e:List CT} {A B:OA}
theorem OwP.nil (w:World) (base:Nat) (et:TypeId) (p:VL->Prop) (e:List CT) (X:NP) (K:Nat):OwP w base et p e X K none 0 0:=⟨[],World.ownsRow_nil _ _ _ _,fun k h=>absurd h o_⟩
theorem OwP.slP (h:OwP w base et p e X K A n c) (hb:∀ k,X k->k<base) (hn:n<=K):SlP w X K p e A n c:=by
 obtain ⟨xs,ho,hx⟩:=h;exact SlP.da_ ho hb hn (fun k hk=>by obtain ⟨vs,h1,h2,h3⟩:=hx k hk;exact ⟨vs,h1.less (fun k _ h=>.inl h),h2,h3⟩)
theorem OwP.mono {base':Nat} (h:OwP w base et p e X K A n c) (hb:base'<=base):OwP w base' et p e X K A n c:=by
 obtain ⟨xs,ho,hx⟩:=h;exact ⟨xs,own_mono ho hb,hx⟩
theorem own_kp {base sz:Nat} {v:Value} {xs:VL} (ho:w.ownsRow base et sz v n xs) (hk:Kp X w w') (hb:∀ g,v.ownBlock=some g->¬X g):w'.ownsRow base et sz v n xs:=by
 refine ⟨ho.1,?_⟩;rcases ho.2 with h | ⟨g,cap,cur,hv,hg,hr,hr2⟩
 ·exact .inl h
 subst hv;have A0:g<w:=by
  rcases Nat.lt_or_ge g w with h | h
  ·exact h
  rw [Array.getElem?_eq_none h] at hr;cases hr
 exact .inr ⟨g,cap,cur,rfl,hg,(hk.block g A0 (hb g rfl)).trans hr,hr2⟩
theorem OwP.kept (h:OwP w base et p e X K A n c) (hk:Kp X w w') (hb:∀ k,X k->k<base):OwP w' base et p e X K A n c:=by
 obtain ⟨xs,ho,hx⟩:=h;have hne:∀ g,(Value.slice A n c).ownBlock=some g->¬X g:=fun g hg A1=>by have:=(an_ ho hg).1;have:=hb g A1;omega
 refine ⟨xs,own_kp ho hk hne,fun k A0=>?_⟩;obtain ⟨vs,h1,h2,h3⟩:=hx k A0;exact ⟨vs,h1.kept (hk.mono (fun k _ h=>.inl h)) (fun _ _ h=>h) (l_),h2,h3⟩
theorem OwP.below (h:OwP w base et p e X K A n c) (hb:Below w w w'):OwP w' base et p e X K A n c:=by
 obtain ⟨xs,ho,hx⟩:=h;refine ⟨xs,own_below ho hb,fun k A0=>?_⟩;obtain ⟨vs,h1,h2,h3⟩:=hx k A0;exact ⟨vs,h1.kept (Kp.of_below hb) (fun _ _ h=>h) (l_),h2,h3⟩
theorem SlP.news (h:SlP w X K p e A n c):∃ news:VL,news.length=n*e.length/\(A=none->n=0)/\(∀ ad,A=some ad->∀ (j:Nat) (u:Value),news[j]?=some u->w.cell? (ad.add j)=some u)/\(∀ u ∈ news,u.oneCell'=true) ∧
  ∀ k,k<n->∃ vs,VTs w X K e vs/\(∀ j u,vs[j]?=some u->news[k*e.length+j]?=some u)/\p vs:=by
 obtain ⟨news,n1,n2,n3,n4,n5⟩:=h.sl.news;refine ⟨news,n1,n2,n3,n4,fun k hk=>?_⟩;obtain ⟨g,o,vs,rfl,h1,h2,h3⟩:=h.ok k hk;refine ⟨vs,h1,fun j u hu=>?_,h3⟩;have hj:j<e.length:=by rw [<-h1.1];exact (e_ hu).1
 obtain ⟨v,hv,_⟩:=n5 k j _ hk (ge_ hj);have h4:=n3 _ rfl _ v hv;rw [Addr.add_lit] at h4;rw [h2 j u hu] at h4;injection h4 with h4;rw [hv,h4]
theorem own_appendP {xs news:VL} {A':OA} {c':Nat} (hxs:w.ownsRow base et e.length (.slice A n c) n xs/\∀ k,k<n->∃ vs,VTs w (Wi X (Value.slice A n c).ownBlock) K e vs/\(∀ j u,vs[j]?=some u->xs[k*e.length+j]?=some u)/\p vs)
  (_hl:news.length=m*e.length) (hn:∀ k,k<m->∃ vs,VTs w (Wi X (Value.slice A n c).ownBlock) K e vs/\(∀ j u,vs[j]?=some u->news[k*e.length+j]?=some u)/\p vs)
  (hX:∀ k,X k->k<w) (ho:w'.ownsRow base et e.length (.slice A' (n+m) c') (n+m) (xs ++ news)) (hg:w.grownBy w' (Value.slice A n c).ownBlock) (hloc:∀ g,(Value.slice A' (n+m) c').ownBlock=some g->(Value.slice A n c).ownBlock=some g\/g=w) :
  OwP w' base et p e X K A' (n+m) c':=by
 have A0:xs.length=n*e.length:=hxs.1.1;have up:∀ {ts:List CT} {us:VL},VTs w (Wi X (Value.slice A n c).ownBlock) K ts us->VTs w' (Wi X (Value.slice A' (n+m) c').ownBlock) K ts us:=fun hv =>
  hv.kept ((Kp.refl _ w).grown hg (fun k hk=>.inl (.inr hk))) (fun k hk A1 hin=>by
   rcases hin with hin | hin
   ·exact A1 (.inl hin)
   rcases hloc k hin with h1 | h1
   ·exact A1 (.inr h1)
   omega) (l_)
 refine ⟨xs ++ news,ho,fun k hk=>?_⟩;by_cases hkn:k<n
 ·obtain ⟨vs,h1,h2,h3⟩:=hxs.2 k hkn;exact ⟨vs,up h1,fun j u hu=>by rw [List.getElem?_append_left (e_ (h2 j u hu)).1];exact h2 j u hu,h3⟩
 obtain ⟨vs,h1,h2,h3⟩:=hn (k - n) o_;refine ⟨vs,up h1,fun j u hu=>?_,h3⟩;have e1:k*e.length=n*e.length+(k - n)*e.length:=by rw [<-Nat.add_mul];congr 1;omega
 rw [List.getElem?_append_right z9_,A0,show k*e.length+j - n*e.length=(k - n)*e.length+j from by omega];exact h2 j u hu
theorem SlP.of_box {b:Nat} {cs:VL} (hB:Bx w b cs) (hX:¬X b) (hn:n<=K) (hm:n<=9223372036854775807) (h:∀ k,k<n->∃ vs,VTs w X K e vs/\(∀ j u,vs[j]?=some u->cs[k*e.length+j]?=some u)/\p vs):SlP w X K p e (some (a_ b)) n n:=by
 have A0:∀ k,k<n->∃ g o vs,(some (a_ b):OA)=some (f_ g o)/\VTs w X K e vs/\(∀ j u,vs[j]?=some u->w.cell? ⟨g,o+(k*e.length+j),none⟩=some u)/\p vs:=fun k hk=>by
  obtain ⟨vs,h1,h2,h3⟩:=h k hk;exact ⟨b,0,vs,rfl,h1,fun j u hu=>by rw [Nat.zero_add];exact hB.2.1 _ u (h2 j u hu),h3⟩
 refine ⟨⟨hn,l_,hm,x_,fun ad hA=>?_⟩,A0⟩;injection hA with hA;subst hA;obtain ⟨l,hl,hR⟩:=list_choose (n:=n) (R:=fun k vs=>VTs w X K e vs/\(∀ j u,vs[j]?=some u->cs[k*e.length+j]?=some u)) (fun k hk=>by obtain ⟨vs,h1,h2,h3⟩:=h k hk;exact ⟨vs,h1,h2⟩);refine ⟨b,0,rfl,hB.1,hX,fun k j=>((l[k]?).getD [])[j]?.getD undef,fun k j t hk hj=>?_,fun k j t hk hj=>?_⟩
 ·obtain ⟨h1,h2⟩:=hR k _ (ge_ (by omega:k<l.length));obtain ⟨u,hu,_⟩:=h1.2 j t hj;dsimp only
  rw [ge_ (by omega:k<l.length),Option.getD_some,hu,Nat.zero_add];exact hB.2.1 _ u (h2 j u hu)
 obtain ⟨h1,h2⟩:=hR k _ (ge_ (by omega:k<l.length));obtain ⟨u,hu,hv⟩:=h1.2 j t hj;dsimp only
 rw [ge_ (by omega:k<l.length),Option.getD_some,hu];exact hv
theorem SlP.one {b:Nat} {cs:VL} (hB:Bx w b cs) (hX:¬X b) (hn:1<=K) (h1:VTs w X K e cs) (h2:p cs):SlP w X K p e (some (a_ b)) 1 1 :=
 SlP.of_box hB hX hn o_ (fun k hk=>by
  obtain rfl:k=0:=by omega
  exact ⟨cs,h1,fun j u hu=>by rw [Nat.zero_mul,Nat.zero_add];exact hu,h2⟩)
theorem SlP.two {b:Nat} {us vs:VL} (hB:Bx w b (us ++ vs)) (hX:¬X b) (hn:2<=K) (h1:VTs w X K e us) (h2:p us) (h3:VTs w X K e vs) (h4:p vs):SlP w X K p e (some (a_ b)) 2 2 :=
 SlP.of_box hB hX hn o_ (fun k hk=>by
  by_cases h0:k=0
  ·subst h0
   exact ⟨us,h1,fun j u hu=>by rw [Nat.zero_mul,Nat.zero_add,List.getElem?_append_left (e_ hu).1];exact hu,h2⟩
  obtain rfl:k=1:=by omega
  exact ⟨vs,h3,fun j u hu=>by rw [Nat.one_mul,List.getElem?_append_right (by rw [h1.1];omega),h1.1,Nat.add_sub_cancel_left];exact hu,h4⟩)
theorem SlP.less (h:SlP w X K p e A n c) (hXY:∀ k,k<w.heap.size->Y k->X k):SlP w Y K p e A n c:=by
 obtain ⟨A',n',c',e',h'⟩:=(h.vt.less hXY).dm_;exact ud_
theorem SlP.kept (h:SlP w X K p e A n c) (hk:Kp X w w') (hXY:∀ k,k<w.heap.size->¬X k->¬Y k) (hK:K<=K'):SlP w' Y K' p e A n c:=by
 obtain ⟨A',n',c',e',h'⟩:=(h.vt.kept hk hXY hK).dm_;exact ud_
end
section
variable {P:Program} {w:World} {ops:Array Oper} {rest:List Oper} {o:Oper} {a:Act} {Q:Exit->Act->World->Prop} {t et:TypeId} {bytes:Nat} {p:VL->Prop} {e:List CT} {X:NP} {K base n c m d:Nat} {A B:OA}
theorem dq_ (hgd:o.guard=none) (s x:Operand) (ho:o.op=.call { callee:=.builtin .append,args:=#[s,x],argTypes:=#[t,t] }) (E:EI P t et e bytes)
  (hs:a.eval s=.slice A n c) (hown:OwP w base et p e X K A n c) (hx:a.eval x=.slice B m d) (hsrc:SlP w (Wi X (Value.slice A n c).ownBlock) K p e B m d)
  (hX:∀ k,X k->k<w) (h63:n+m<=maxLen) (hbytes:(n+m)*bytes<=140737488355328) (hbase:base<=w)
  (h:∀ A' c' w',OwP w' base et p e X K A' (n+m) c'->w.grownBy w' (Value.slice A n c).ownBlock->(∀ g,(Value.slice A' (n+m) c').ownBlock=some g->(Value.slice A n c).ownBlock=some g\/g=w)->wpList P ops Q rest (a.put o.dst (.slice A' (n+m) c')) w'):wpList P ops Q (o :: rest) a w:=by
 obtain ⟨i,z,hi,hz,A0,A1,A2⟩:=E.hi;obtain ⟨xs,h1,h2⟩:=hown;obtain ⟨news,n1,n2,n3,n4,n5⟩:=hsrc.news;exact ca_ hgd s x t ho base et i z e.length bytes E.ht hi hz A0 A1 A2 E.hsz _ n xs hs h1 B m d news hx n2 n1 n3 n4 h63 hbytes hbase (fun A' c' w' g1 g2 g3=>h A' c' w' (own_appendP ⟨h1,h2⟩ n1 n5 hX g1 g2 g3) g2 g3)
end
def Zm (d b:Nat):NP:=fun k=>k=d\/k=b
structure Mk (d b:Nat) (lp:Nat) (w:World):Prop where
 dice:Dice w d
 ne:d<b
 lt:b<w
 c0:w.cell? (a_ b)=some (pt d)
 c1:∃ left,w.cell? (f_ b 1)=some (i_ left)
 c2:w.cell? (f_ b 2)=some (i_ lp)
 c3:∃ fn,w.cell? (f_ b 3)=some (i_ fn)
 fz:∀ j,w.frozen? (f_ b j)=false
section
variable {d b lp:Nat} {w w' w2:World}
theorem Mk.below (h:Mk d b lp w) (hb:Below w w w'):Mk d b lp w':=by
 obtain ⟨l,h1⟩:=h.c1;obtain ⟨f,h3⟩:=h.c3;exact ⟨h.dice.below hb,h.ne,lt_ h.lt hb.size,(belc hb h.lt).trans h.c0,⟨l,(belc hb h.lt).trans h1⟩,(belc hb h.lt).trans h.c2,⟨f,(belc hb h.lt).trans h3⟩,fun j=>(belf hb h.lt).trans (h.fz j)⟩
theorem Mk.thrown (h:Mk d b lp w) (ht:ct_ w d w'):Mk d b lp w':=by
 have hne:b≠d:=by have:=h.ne;omega
 obtain ⟨l,h1⟩:=h.c1;obtain ⟨f,h3⟩:=h.c3;exact ⟨ht.dice,h.ne,lt_ h.lt ht.size,(ht.cell h.lt hne).trans h.c0,⟨l,(ht.cell h.lt hne).trans h1⟩,(ht.cell h.lt hne).trans h.c2,⟨f,(ht.cell h.lt hne).trans h3⟩,fun j=>(ht.frozen h.lt hne).trans (h.fz j)⟩
theorem ct_.kp (ht:ct_ w d w') (b:Nat):Kp (Zm d b) w w':=(Kp.refl _ w).grown ht.grown (fun k hk=>by injection hk with hk;exact .inl (.inl hk.symm))
theorem Mk.set1 (h:Mk d b lp w) (x:Int):Mk d b lp (w.setCell (f_ b 1) (i_ x)):=by
 obtain ⟨l,h1⟩:=h.c1;obtain ⟨f,h3⟩:=h.c3;have hs:∀ j,j≠1->(w.setCell (f_ b 1) (i_ x)).cell? (f_ b j)=w.cell? (f_ b j):=fun j hj=>bk_ _ _ _ _ zp_
 refine ⟨?_,h.ne,wt_,(hs 0 o_).trans h.c0,⟨x,World.cell?_setCell_same _ _ _ h1⟩,(hs 2 o_).trans h.c2,⟨f,(hs 3 o_).trans h3⟩,fun j=>(World.frozen?_setCell ..).trans (h.fz j)⟩;exact h.dice.set (p:=(f_ b 1)) h.ne _
theorem Mk.set2 (h:Mk d b lp w) (x:Nat):Mk d b x (w.setCell (f_ b 2) (i_ x)):=by
 obtain ⟨l,h1⟩:=h.c1;obtain ⟨f,h3⟩:=h.c3;have hs:∀ j,j≠2->(w.setCell (f_ b 2) (i_ x)).cell? (f_ b j)=w.cell? (f_ b j):=fun j hj=>bk_ _ _ _ _ zp_
 refine ⟨?_,h.ne,wt_,(hs 0 o_).trans h.c0,⟨l,(hs 1 o_).trans h1⟩,World.cell?_setCell_same _ _ _ h.c2,⟨f,(hs 3 o_).trans h3⟩,fun j=>(World.frozen?_setCell ..).trans (h.fz j)⟩;exact h.dice.set (p:=(f_ b 2)) h.ne _
theorem Mk.set3 (h:Mk d b lp w) (x:Int):Mk d b lp (w.setCell (f_ b 3) (i_ x)):=by
 obtain ⟨l,h1⟩:=h.c1;obtain ⟨f,h3⟩:=h.c3;have hs:∀ j,j≠3->(w.setCell (f_ b 3) (i_ x)).cell? (f_ b j)=w.cell? (f_ b j):=fun j hj=>bk_ _ _ _ _ zp_
 refine ⟨?_,h.ne,wt_,(hs 0 o_).trans h.c0,⟨l,(hs 1 o_).trans h1⟩,(hs 2 o_).trans h.c2,⟨x,World.cell?_setCell_same _ _ _ h3⟩,fun j=>(World.frozen?_setCell ..).trans (h.fz j)⟩;exact h.dice.set (p:=(f_ b 3)) h.ne _
theorem Kp.setm {X:NP} (h:Kp (Zm d b) w w') (j:Nat) (v:Value):Kp (Zm d b) w (w'.setCell (f_ b j) v):=h.setCell (p:=(f_ b j)) (.inl (.inr rfl)) v
theorem Mk.nz (h:Mk d b lp w):¬Zm d b w:=fun e=>by
 have:=h.dice.lt;have:=h.lt;rcases e with e | e <;> omega
theorem Mk.zlt (h:Mk d b lp w):∀ k,Zm d b k->k<w:=fun k hk=>by
 have:=h.dice.lt;have:=h.lt;rcases hk with rfl | rfl <;> assumption
end
structure Md (d b lp:Nat) (w w':World):Prop where
 ok:Mk d b lp w'
 kp:Kp (Zm d b) w w'
section
variable {d b lp:Nat} {w w' w2:World}
theorem Md.trans (h:Md d b lp w w') (h2:Md d b lp w' w2):Md d b lp w w2:=⟨h2.ok,h.kp.trans h2.kp⟩
theorem Md.below (h:Md d b lp w w') (hb:Below w' w' w2):Md d b lp w w2:=⟨h.ok.below hb,h.kp.az_ hb⟩
theorem Md.set1 (h:Md d b lp w w') (x:Int):Md d b lp w (w'.setCell (f_ b 1) (i_ x)):=⟨h.ok.set1 x,h.kp.setCell (p:=(f_ b 1)) (.inl (.inr rfl)) _⟩
theorem Md.new (h:Md d b lp w w') {p:Addr} (hp:w<=p.block) (hb:b<p.block) (u:Value):Md d b lp w (w'.setCell p u):=by
 have hd:=h.ok.ne;have hs:∀ j,(w'.setCell p u).cell? (f_ b j)=w'.cell? (f_ b j):=fun j=>bk_ _ _ _ _ (by intro e;rw [e] at hb;exact Nat.lt_irrefl _ hb)
 obtain ⟨l,h1⟩:=h.ok.c1;obtain ⟨f,h3⟩:=h.ok.c3;exact ⟨⟨h.ok.dice.set o_ u,hd,by simpa [World.setCell] using h.ok.lt,(hs 0).trans h.ok.c0,⟨l,(hs 1).trans h1⟩,(hs 2).trans h.ok.c2,⟨f,(hs 3).trans h3⟩,fun j=>(World.frozen?_setCell ..).trans (h.ok.fz j)⟩,h.kp.setCell (.inr hp) u⟩
end
def exL (kd n:Int) (s:ByteArray) (op:Int) (A:OA) (m c:Nat):VL:=[i_ kd,i_ n,.string s,i_ op,.slice A m c]
def stL (kd:Int) (s f:ByteArray) (n op:Int) (A:OA) (m c:Nat) (B:OA) (m1 c1:Nat) (C:OA) (m2 c2:Nat):VL:=[i_ kd,.string s,.string f,i_ n,i_ op,.slice A m c,.slice B m1 c1,.slice C m2 c2]
def RE (X:NP) (d:Nat) (e:Ending) (w:World):Prop:=∃ (kd n:Int) (s:ByteArray) (op:Int) (A:OA) (m c:Nat),e=.returned (.agg #[i_ kd,i_ n,.string s,i_ op,.slice A m c])/\Hid (VTs w X 20 (be_ d) (exL kd n s op A m c)/\pE (exL kd n s op A m c))
def RS (X:NP) (d:Nat) (e:Ending) (w:World):Prop:=∃ (kd:Int) (s f:ByteArray) (n op:Int) (A:OA) (m c:Nat) (B:OA) (m1 c1:Nat) (C:OA) (m2 c2:Nat),e=.returned (.agg #[i_ kd,.string s,.string f,i_ n,i_ op,.slice A m c,.slice B m1 c1,.slice C m2 c2])/\Hid (VTs w X 20 (ah_ d) (stL kd s f n op A m c B m1 c1 C m2 c2)/\pS (stL kd s f n op A m c B m1 c1 C m2 c2))
section
variable {X:NP} {w w':World} {d d':Nat}
theorem vts_ex0 (kd n:Int) (s:ByteArray) (op:Int):VTs w X 20 (be_ 0) (exL kd n s op none 0 0):=VTs.cons (.num _) (VTs.cons (.num _) (VTs.cons (.txt _) (VTs.cons (.num _) (VTs.cons (SlP.nil _ _ _ _ _).vt VTs.nil))))
theorem vts_ex {kd n:Int} {s:ByteArray} {op:Int} {A:OA} {m c:Nat} (h:SlP w X 20 pE (be_ d) A m c):VTs w X 20 (be_ (d+1)) (exL kd n s op A m c):=VTs.cons (.num _) (VTs.cons (.num _) (VTs.cons (.txt _) (VTs.cons (.num _) (VTs.cons h.vt VTs.nil))))
theorem pE_ex {kd n:Int} {s:ByteArray} {op:Int} {A:OA} {m c:Nat} (h4:kd=4->1<=m) (h5:kd=5->2<=m) (hs:s.size<=100):pE (exL kd n s op A m c):=⟨kd,n,s,op,A,m,c,rfl,h4,h5,hs⟩
theorem pS_st {kd:Int} {s f:ByteArray} {n op:Int} {A B C:OA} {m c m1 c1 m2 c2:Nat} (h5:kd=5->2<=m) (h6:kd=6->1<=m) (h3:kd=3->f=nameF\/f=nameG) (hs:s.size<=100) (hf:f.size<=100):pS (stL kd s f n op A m c B m1 c1 C m2 c2):=⟨kd,s,f,n,op,A,B,C,m,c,m1,c1,m2,c2,rfl,h5,h6,h3,hs,hf⟩
theorem vts_st {kd:Int} {s f:ByteArray} {n op:Int} {A B C:OA} {m c m1 c1 m2 c2:Nat} (h:SlP w X 20 pE (be_ dE) A m c) (h1:SlP w X 20 pS (ah_ d) B m1 c1) (h2:SlP w X 20 pS (ah_ d) C m2 c2):VTs w X 20 (ah_ (d+1)) (stL kd s f n op A m c B m1 c1 C m2 c2):=vts_stmt h h1 h2
theorem ec_ {kd:Int} {s f:ByteArray} {n op:Int} {A:OA} {m c:Nat} (h:SlP w X 20 pE (be_ dE) A m c):VTs w X 20 (ah_ 0) (stL kd s f n op A m c none 0 0 none 0 0):=vts_stmt0 h (SlP.nil _ _ _ _ _) (SlP.nil _ _ _ _ _)
end
end Go.Proofs.YtfolidlmgfhkiaaGreat
namespace Go.Proofs.YtfolidlmgfhkiaaGreat
open Go.RowKit Go.Proofs.Tryz
theorem infoCl:(prog.info? 87).map (fun i=>(i.zero,i.size,i.bytes))=some (some (.agg #[i_ 0,i_ 0,.bool false,i_ 0]),4,32):=by kernel_rfl
theorem infoAc:(prog.info? 152).map (fun i=>(i.zero,i.size,i.bytes))=some (some (.agg #[.bool false,i_ 0,i_ 0]),3,24):=by kernel_rfl
def RSl (X:NP) (K:Nat) (e:List CT) (en:Ending) (w:World):Prop:=∃ (A:OA) (n c:Nat),en=.returned (.slice A n c)/\Hid (SlT w X K e A n c)
theorem actions_t (X:NP) (K L:Nat) (A:OA) (n c:Nat) (B:OA) (m d:Nat) (w:World) (ha:SlT w X K actT A n c) (hb:SlT w X L actT B m d) (hK:K<=100000000000) (hL:L<=100000000000) (hX:∀ k,X k->k<w) :
  Calls prog 75 #[.slice A n c,.slice B m d] w fun e w'=>RSl X (K+L) actT e w'/\Below w w w':=by
 obtain ⟨i0,A1,A2,A3,A6⟩:=info_parts infoAc;have HA:=h_ (SlT w (Wi X (Value.slice none 0 0).ownBlock) (K+L) actT A n c) (ha.kept (Kp.refl _ _) (fun k _ h h2=>by rcases h2 with h2 | h2;exact h h2;cases h2) o_);have HB:=q_ hb;have A0:=q_ hX;have h1:=ha.le;have h2:=hb.le;clear ha hb hX;go_enter func75,ntmps75;go_wp2_with (at_builtin;first
  | (refine ap_ rfl _ _ 36 rfl w 152 i0 _ 24 actT X (K+L) underlying36 A1 A2 A3 A6 rfl d_ none 0 0 zb_ (OwT.nil _ _ _ _ _ _) A n c zb_ HA.o A0.o m_ o_ (l_) ?_;intro A4 c4 w4 o4 g4 l4;rw [Nat.zero_add] at o4 l4 ⊢;have b4:Below w w w4:=al_ g4 (l_) (fun k hk=>by cases hk);have z4:=b4.size;have O4:=q_ o4;have L4:=q_ l4;clear o4 l4 g4)
  | (refine ap_ rfl _ _ 36 rfl w 152 i0 _ 24 actT X (K+L) underlying36 A1 A2 A3 A6 rfl d_ A4 n c4 zb_ O4.o B m d zb_ (HB.o.kept (Kp.of_below b4) (fun k hk h h2=>by rcases h2 with h2 | h2;exact h h2;rcases L4.o k h2 with h3 | h3;cases h3;omega) o_) (fun k hk=>by have:=A0.o k hk;omega) m_ o_ z4 ?_;intro A5 c5 w5 o5 g5 l5;have b5:Below w w w5:=b4.grown g5 z4 (fun k hk=>by rcases L4.o k hk with h3 | h3;cases h3;omega);have O5:=q_ o5;clear o5 l5 g5))
 go_ret;exact ⟨⟨_,_,_,rfl,q_ (O5.o.slT A0.o o_)⟩,b5⟩
theorem Answer_t (X:NP) (K:Nat) (A:OA) (n c:Nat) (k:Int) (w:World) (h:SlT w X K [.num] A n c) (hK:K<=4398046510976) :
  Calls prog 76 #[.agg #[.slice A n c],i_ k] w fun e w'=>RN e/\Below w w w':=by
 have hn:n<=4398046510976:=Nat.le_trans h.le hK;have H:=q_ h;clear h;by_cases h0:0<=k
 ·obtain ⟨q,rfl⟩:∃ q:Nat,k=q:=⟨k.toNat,o_⟩;by_cases h1:q<n
  ·have A0:(q:Int)<(n:Int):=by omega
   obtain ⟨g,o,rfl,hg,x,hx⟩:=H.o.num_at h1;have c0:=hx w (b_);clear hx;exact u8_
  have A0:¬(q:Int)<(n:Int):=by omega
  exact u8_
 exact u8_
theorem fa_ (X:NP) (K:Nat) (A:OA) (n c:Nat) (y:Dl) (w:World) (ha:SlT w X K aq_ A n c) (hK:1<=K/\K<=100000000000) (hX:∀ k,X k->k<w) :
  Calls prog 138 #[.slice A n c,.agg #[i_ y.id,i_ y.field,i_ y.op,.bool y.ref,i_ y.n]] w fun e w'=>RSl X K aq_ e w'/\Below w w w':=by
 obtain ⟨i0,Ac,Ad,Ae,Af⟩:=info_parts infoCl;obtain ⟨W,hW,A4,Ab,B0⟩:=ag_ w [i_ y.id,i_ y.field,i_ y.op,.bool y.ref,i_ y.n] 174;have KB:=q_ (fun w' (hb:Below W W w')=>B0.below hb);have HA:=q_ (ha.up (Kp.of_below A4) (Nat.le_refl K));have HW:=q_ A4;have Ah:=ha.le;have Ag:(w:Nat)<W:=by omega
 have A3:=h_ (∀ k,X k->k<W) (fun k hk=>by have:=hX k hk;omega);clear ha hX B0 A4 Ab;go_enter func138,ntmps138;go_upto_region 1 with fail;rw [<-hW];clear hW;go_upto_region 3 with fail;go_loopw [10,5] (fun i s wr=>∃ (k q:Nat) (B:OA) (d:Nat),k<=n/\i=i_ k/\s=.slice B q d/\q<=k/\Hid (OwT wr W 87 aq_ X K B q d)/\Below W W wr) (fun i _ _=>n - (intOf i).toNat)
 case atStart=>exact ⟨0,0,none,0,o_,rfl,rfl,o_,q_ (OwT.nil _ _ _ _ _ _),b_⟩
 obtain ⟨k,q,B,d,hk,rfl,rfl,hq,hO,hb⟩:=hrel;have Aj:=hb.size;by_cases hlt:k<n
 ·have A6:(k:Int)<(n:Int):=by omega
  obtain ⟨g,o,rfl,hg,x,hx⟩:=HA.o.ds_ hlt;obtain ⟨c0,c1,c2,c3⟩:=hx wr hb;have d0:=(KB.o wr hb).2.1 0 _ rfl;have d1:=(KB.o wr hb).2.1 1 _ rfl;have A7:(w:Nat)<wr:=by omega
  have HB:=q_ hb;obtain ⟨V,hV,A0,Aa,V0⟩:=ag_ wr [i_ x.id,i_ x.field,.bool x.ref,i_ x.n] 87;have v0:=V0.2.1 0 _ rfl;have v1:=V0.2.1 1 _ rfl;have v2:=V0.2.1 2 _ rfl;have v3:=V0.2.1 3 _ rfl;have e0:V.cell? (a_ w)=some (i_ y.id):=(belc A0 A7).trans d0;have e1:V.cell? (f_ w 1)=some (i_ y.field):=(belc A0 A7).trans d1;have A1:=h_ (Below W W V) (hb.trans (A0.mono hb.size));have A8:=h_ (∀ o,Below W W (V.alloc o)) (fun o=>A1.o.alloc A1.o.size o);have A2:=q_ (hO.o.below A0);have A9:=h_ (∀ o,OwT (V.alloc o) W 87 aq_ X K B q d) (fun o=>A2.o.below ((b_).alloc (l_) o));have HU:=h_ (∀ a b r m,SlT (V.alloc (.cells #[i_ a,i_ b,.bool r,i_ m] 87)) (Wi X (Value.slice B q d).ownBlock) K aq_ (some (a_ V)) 1 1) (fun a b r m=>by
   refine SlT.lit1 (e:=aq_) (eg_ a b r m) _ (fun h=>?_) hK.1
   rcases h with h | h
   ·have:=A3.o _ h;omega
   obtain ⟨xs,ho,_⟩:=A2.o
   have:=(an_ ho h).2;omega)
  have Ai:=A1.o.size;clear hx hb hO V0 A0 Aa d0 d1;go_upto_region 5 with fail;rw [<-hV];clear hV c0 c1 c2 c3;go_wp2_with (at_builtin;refine ap_ rfl _ _ 54 rfl W 87 i0 _ 32 aq_ X K underlying54 Ac Ad Ae Af rfl d_ B q d zb_ (A9.o _) _ 1 1 zb_ (HU.o _ _ _ _) (fun k hk=>by have:=A3.o k hk;simp;omega) m_ o_ zm_ ?_;intro A5 c5 w5 o5 g5 l5;have b5:Below W W w5:=(A8.o _).grown g5 zm_ (fun k hk=>by obtain ⟨xs,ho,_⟩:=A2.o;exact (an_ ho hk).1);have O5:=q_ o5;clear o5 g5 l5);all_goals first
   | (go_roundw
      case rel=>exact ⟨k+1,q+1,A5,c5,o_,za_,rfl,o_,O5,b5⟩
      case measure=>exact me_)
   | (go_roundw
      case rel=>exact ⟨k+1,q,B,d,o_,za_,rfl,o_,A2,A1.o⟩
      case measure=>exact me_)
 have A6:¬(k:Int)<(n:Int):=by omega
 go_wp2;go_ret;exact ⟨⟨_,_,_,rfl,q_ (hO.o.slT A3.o o_)⟩,HW.o.trans (hb.mono HW.o.size)⟩
end Go.Proofs.YtfolidlmgfhkiaaGreat
namespace Go.Proofs.YtfolidlmgfhkiaaGreat
open Go.ChangeShapes Go.WideShapes Go.ChangeAt Go.RowKit Go.Deep
section
variable {H:Type} {enc:TypeId × Value->H} {W:World}
theorem el_byte {sp:Nat->Bool}:∀ n cs y,cs.length=1->DataW.trod enc Tryz.prog W 0 sp true n 5 cs=some y->∃ x:Int,cs=byteCells x/\(0<=x/\x<=255):=by
 intro n cs y _ h;obtain ⟨x,rfl,_,hw⟩:=DataW.trod_int Tryz.underlying5 h;exact ⟨x,rfl,wf_u8 hw⟩
end
end Go.Proofs.YtfolidlmgfhkiaaGreat
namespace Go.Proofs.YtfolidlmgfhkiaaGreat
open Go.RowKit
def Dd (d:Nat) (w w':World):Prop:=(w':Nat)=w/\Kp (fun k=>k=d) w w'
theorem Dd.refl (d:Nat) (w:World):Dd d w w:=⟨rfl,Kp.refl _ _⟩
theorem Dd.trans {d:Nat} {w w' w2:World} (h:Dd d w w') (h2:Dd d w' w2):Dd d w w2:=⟨h2.1.trans h.1,h.2.trans h2.2⟩
theorem Fr.dice {X Y:NP} {L:List LV} {C:Nat->VL} {w0 w:World} {d:Nat} (h:Fr X (fun _=>False) w0 L Y C w) (hD:Dice w0 d):Dice w d:=hD.below h.below
theorem Dice.back {w0 w:World} {d:Nat} (h:Dice w d) (hk:Kp (fun _=>False) w0 w) (hd:d<w0):Dice w0 d:=by
 obtain ⟨_,S,sn,sc,a,h0,h1,h2,h3,h4,h5⟩:=h;refine ⟨hd,S,sn,sc,a,(hk.cell hd (fun h=>h)).symm.trans h0,(hk.cell hd (fun h=>h)).symm.trans h1,(hk.frozen hd (fun h=>h)).symm.trans h2,h3,h4,fun i hi=>?_⟩;obtain ⟨sb,so,x,e,h6,h7,h8,h9⟩:=h5 i hi;exact ⟨sb,so,x,e,h6,h7,h8,(hk.cell o_ (fun h=>h)).symm.trans h9⟩
theorem Fr.kpd {X Y:NP} {L:List LV} {C:Nat->VL} {w0 w w':World} {d:Nat} (h:Fr X (fun _=>False) w0 L Y C w) (hd:d<w0) (hX:X d) (hk:w.grownBy w' (some d)) :
  (∃ w0',Dd d w0 w0'/\Fr X (fun _=>False) w0' L Y C w')/\Up w Y w' Y:=by
 have A0:Kp (fun k=>k=d) w w':=(Kp.refl _ w).grown hk (fun k hk=>by injection hk with hk;exact .inl hk.symm);have A4:Kp Y w w':=A0.mono (fun k _ hk=>by subst hk;exact h.sub _ hX);have A2:Up w Y w' Y:=⟨A4,fun _ _ h=>h⟩;have A3:d<w:=lt_ hd h.kp.size;have A1:d<w':=lt_ A3 hk.size;have hb:∀ p ∈ L,p.b≠d:=fun p hp=>by
  rcases (h.blk p hp).2.1 with h1 | h1
  ·omega
  exact h1.elim
 refine ⟨⟨{ w0 with heap:=w0.heap.setIfInBounds d w'.heap[d] },⟨zk_,⟨rfl,rfl,rfl,zk_,fun k hk hx=>by simp only [Array.getElem?_setIfInBounds];rw [if_neg (fun e=>hx e.symm)]⟩⟩,⟨?_,h.sub,fun k hk=>lt_ (h.lt k hk) A0.size,fun p hp=>?_,fun p hp j t hj ho=>?_,fun p hp j t et hj ho=>?_,h.far,h.nd⟩⟩,A2⟩
 ·refine ⟨A0.os.trans h.kp.os,A0.tape.trans h.kp.tape,A0.output.trans h.kp.output,by simpa using Nat.le_trans h.kp.size A0.size,fun k hk hx=>?_⟩;have hk:k<w0:=by simpa using hk
  show _=(w0.heap.setIfInBounds d w'.heap[d])[k]?
  rw [Array.getElem?_setIfInBounds];by_cases e:d=k
  ·subst e;rw [if_pos rfl,if_pos hk];exact Array.getElem?_eq_getElem A1
  rw [if_neg e];exact (A0.block k (lt_ hk h.kp.size) (fun e2=>e e2.symm)).trans (h.kp.block k hk (fun h=>h))
 ·obtain ⟨h1,h2,h3,h4⟩:=h.blk p hp;exact ⟨h1,xx_,h3.kp A0 (hb p hp),h4⟩
 ·obtain ⟨v,h1,h2⟩:=h.val p hp j t hj ho;exact ⟨v,h1,h2.go A2 (l_)⟩
 obtain ⟨e,A,n,c,h1,h2,h3,h4,h5⟩:=h.row p hp j t et hj ho;refine ⟨e,A,n,c,h1,h2,h3,h4.stay hk (fun k hk=>?_),fun g hg=>⟨(h5 g hg).1,by simpa using (h5 g hg).2.1,(h5 g hg).2.2⟩⟩;injection hk with hk;subst hk;refine ⟨h.sub _ hX,fun e=>?_⟩;rcases (h5 _ e).2.1 with h6 | h6
 ·omega
 exact h6.elim
structure Rd (d:Nat) (w w':World):Prop where
 dice:Dice w' d
 kp:Kp (fun k=>k=d) w w'
theorem Rd.thrown {d:Nat} {w w':World} (h:Rd d w w'):ct_ w d w':=⟨h.dice,⟨h.kp.os,h.kp.tape,h.kp.output,h.kp.size,fun k hk hr=>h.kp.block k hk (fun e=>hr xy_)⟩⟩
theorem Rd.trans {d:Nat} {w w' w2:World} (h:Rd d w w') (h2:Rd d w' w2):Rd d w w2:=⟨h2.dice,h.kp.trans h2.kp⟩
theorem Rd.below {d:Nat} {w w' w2:World} (h:Rd d w w') (hb:Below w' w' w2):Rd d w w2:=⟨h.dice.below hb,h.kp.az_ hb⟩
def Fs (d:Nat) (X:NP) (w:World) (L:List LV) (Y:NP) (C:Nat->VL) (w':World):Prop:=∃ w0,Dd d w w0/\Dice w0 d/\Fr X (fun _=>False) w0 L Y C w'
theorem Fr.fs {X Y:NP} {L:List LV} {C:Nat->VL} {w w':World} {d:Nat} (h:Fr X (fun _=>False) w L Y C w') (hD:Dice w d):Fs d X w L Y C w':=⟨w,Dd.refl d w,hD,h⟩
section
variable {X Y:NP} {L:List LV} {C:Nat->VL} {w w1 w2:World} {d:Nat}
theorem Fs.dice (h:Fs d X w L Y C w1):Dice w1 d:=by
 obtain ⟨w0,h1,h2,h3⟩:=h;exact h3.dice h2
theorem Fs.pick (h:Fs d X w L Y C w1) (hX:X d) (ht:ct_ w1 d w2):Fs d X w L Y C w2/\Up w1 Y w2 Y:=by
 obtain ⟨w0,h1,h2,h3⟩:=h;obtain ⟨⟨A0,h4,h5⟩,h6⟩:=h3.kpd h2.lt hX ht.grown;refine ⟨⟨A0,h1.trans h4,ht.dice.back h5.kp ?_,h5⟩,h6⟩;rw [h4.1];exact h2.lt
theorem Fs.rd (h:Fs d X w L Y C w1) (hX:X d) (ht:Rd d w1 w2):Fs d X w L Y C w2/\Up w1 Y w2 Y:=h.pick hX ht.thrown
theorem Fs.end_ (h:Fs d X w L Y C w1):Rd d w w1:=by
 obtain ⟨w0,h1,h2,h3⟩:=h;exact ⟨h3.dice h2,h1.2.trans (h3.kp.mono (fun k _ hk=>hk.elim))⟩
theorem Fs.map {L':List LV} {Y':NP} {C':Nat->VL} (h:Fs d X w L Y C w1) (f:∀ w0,w0.heap.size=w.heap.size->Fr X (fun _=>False) w0 L Y C w1->Fr X (fun _=>False) w0 L' Y' C' w2):Fs d X w L' Y' C' w2:=by
 obtain ⟨w0,h1,h2,h3⟩:=h;exact ⟨w0,h1,h2,f w0 h1.1 h3⟩
theorem Fs.call (h:Fs d X w L Y C w1) (hb:Below w1.heap.size w1 w2):Fs d X w L Y C w2:=h.map (fun _ _ f=>f.call hb)
end
end Go.Proofs.YtfolidlmgfhkiaaGreat
namespace Go.Proofs.YtfolidlmgfhkiaaGreat
open Go.RowKit Go.Proofs.Tryz
theorem num_m (n:Int) (w:World):Calls prog 118 #[i_ n] w fun e w'=>e=.returned (.agg #[i_ 1,i_ n,.string ⟨#[]⟩,i_ 0,.slice none 0 0])/\Below w w w':=by
 obtain ⟨W,hW,A0,A1,B0⟩:=ag_ w [i_ 0,i_ 0,.string ⟨#[]⟩,i_ 0,.slice none 0 0] 209;have HB:=q_ B0;have HW:=q_ A0;have z0:=B0.2.1 0 _ rfl;have z1:=B0.2.1 1 _ rfl;have z2:=B0.2.1 2 _ rfl;have z3:=B0.2.1 3 _ rfl;have z4:=B0.2.1 4 _ rfl;have zf:=B0.2.2;have hz:(w:Nat)<W:=by omega
 clear B0 A0 A1;go_enter func118,ntmps118;go_upto_region 1 with fail;rw [<-hW];clear hW;go_wp2;refine retC results118 zc_ underlying209 rfl k_ (cs:=[_,_,_,_,_]) (((((HB.o.set 0 _).set 1 _).set 2 _).set 3 _).set 4 _).whole rfl ?_;exact ⟨rfl,(bel HW.o)⟩
theorem name_m (s:ByteArray) (w:World):Calls prog 119 #[.string s] w fun e w'=>e=.returned (.agg #[i_ 3,i_ 0,.string s,i_ 0,.slice none 0 0])/\Below w w w':=by
 obtain ⟨W,hW,A0,A1,B0⟩:=ag_ w [i_ 0,i_ 0,.string ⟨#[]⟩,i_ 0,.slice none 0 0] 209;have HB:=q_ B0;have HW:=q_ A0;have z0:=B0.2.1 0 _ rfl;have z1:=B0.2.1 1 _ rfl;have z2:=B0.2.1 2 _ rfl;have z3:=B0.2.1 3 _ rfl;have z4:=B0.2.1 4 _ rfl;have zf:=B0.2.2;have hz:(w:Nat)<W:=by omega
 clear B0 A0 A1;go_enter func119,ntmps119;go_upto_region 1 with fail;rw [<-hW];clear hW;go_wp2;refine retC results119 zc_ underlying209 rfl k_ (cs:=[_,_,_,_,_]) (((((HB.o.set 0 _).set 1 _).set 2 _).set 3 _).set 4 _).whole rfl ?_;exact ⟨rfl,(bel HW.o)⟩
theorem names_m (w:World):Calls prog 167 #[] w fun e w'=>e=.returned (.slice (some (a_ w)) 5 5)/\(w':Nat)=w+1/\Below w w w'/\∀ i,i<5->∃ s:ByteArray,w'.cell? (f_ w i)=some (.string s)/\s.size<=100:=by
 go_enter func167,ntmps167;go_wp2;go_ret;refine ⟨rfl,zk_,(b_).alloc (l_) _,fun i hi=>?_⟩
 match i,hi with
 | 0,_=>exact ⟨_,zg_,d_⟩
 | 1,_=>exact ⟨_,zg_,d_⟩
 | 2,_=>exact ⟨_,zg_,d_⟩
 | 3,_=>exact ⟨_,zg_,d_⟩
 | 4,_=>exact ⟨_,zg_,d_⟩
theorem Bx.new' {w:World} {b:Nat} (cs:VL) (t:TypeId) (hb:w=b):Bx (w.alloc (.cells cs.toArray t)) b cs:=by subst hb;exact Bx.new w cs t
def ExV (w:World) (X:NP) (d:Nat) (kd n:Int) (s:ByteArray) (op:Int) (A:OA) (m c:Nat):Prop:=VTs w X 20 (be_ d) (exL kd n s op A m c)/\pE (exL kd n s op A m c)
theorem bin_m (X:NP) (d:Nat) (op kd n:Int) (s:ByteArray) (o:Int) (A:OA) (m c:Nat) (kd' n':Int) (s':ByteArray) (o':Int) (A':OA) (m' c':Nat) (w:World) (h1:ExV w X d kd n s o A m c) (h2:ExV w X d kd' n' s' o' A' m' c') (hX:∀ k,X k->k<w) :
  Calls prog 117 #[i_ op,.agg #[i_ kd,i_ n,.string s,i_ o,.slice A m c],.agg #[i_ kd',i_ n',.string s',i_ o',.slice A' m' c']] w fun e w'=>RE X (d+1) e w'/\Below w w w':=by
 obtain ⟨W,hW,A1,A2,B0,B1,B2⟩:=et_ w (exL kd n s o A m c) 209 (exL kd' n' s' o' A' m' c') 209 [i_ 0,i_ 0,.string ⟨#[]⟩,i_ 0,.slice none 0 0] 209;have HB:=h_ (Bx W (w+1+1) _) B2;have HW:=q_ A1;have H1:=q_ h1.1;have H2:=q_ h2.1;have P1:=q_ h1.2;have P2:=q_ h2.2;have HX:=h_ (¬X W) (fun h=>by have:=hX _ h;omega);have hz:(w:Nat)+2<W:=by omega
 have A4:¬(w:Nat)+1+1=W:=by omega
 have A0:W=((w.alloc (.cells #[i_ kd,i_ n,.string s,i_ o,.slice A m c] 209)).alloc (.cells #[i_ kd',i_ n',.string s',i_ o',.slice A' m' c'] 209)).alloc (.cells #[i_ 0,i_ 0,.string ⟨#[]⟩,i_ 0,.slice none 0 0] 209):=hW;have x0:=B0.2.1 0 _ rfl;have x1:=B0.2.1 1 _ rfl;have x2:=B0.2.1 2 _ rfl;have x3:=B0.2.1 3 _ rfl;have x4:=B0.2.1 4 _ rfl;have y0:=B1.2.1 0 _ rfl;have y1:=B1.2.1 1 _ rfl;have y2:=B1.2.1 2 _ rfl;have y3:=B1.2.1 3 _ rfl;have y4:=B1.2.1 4 _ rfl;have z0:W.cell? ⟨w+1+1,0,none⟩=some (i_ 0):=B2.2.1 0 _ rfl;have z1:W.cell? ⟨w+1+1,1,none⟩=some (i_ 0):=B2.2.1 1 _ rfl;have z2:W.cell? ⟨w+1+1,2,none⟩=some (.string ⟨#[]⟩):=B2.2.1 2 _ rfl;have z3:W.cell? ⟨w+1+1,3,none⟩=some (i_ 0):=B2.2.1 3 _ rfl;have z4:W.cell? ⟨w+1+1,4,none⟩=some (.slice none 0 0):=B2.2.1 4 _ rfl;have zf:∀ j,W.frozen? ⟨w+1+1,j,none⟩=false:=B2.2.2;have A3:(w:Nat)+1+1<W:=by omega
 clear B0 B1 B2 A1 h1 h2 hX hW A2;go_enter func117,ntmps117;go_upto_region 1 with fail;rw [<-A0];clear A0;go_wp2;refine retC results117 zc_ underlying209 rfl k_ (cs:=[_,_,_,_,_]) ((((((HB.o.set 0 _).set 1 _).set 2 _).set 3 _).set 4 _).alloc _).whole rfl ?_;have hb:Below w w ((((((W.setCell ⟨w+1+1,0,none⟩ (i_ 5)).setCell ⟨w+1+1,1,none⟩ (i_ 0)).setCell ⟨w+1+1,2,none⟩ (.string ⟨#[]⟩)).setCell ⟨w+1+1,3,none⟩ (i_ op)).setCell ⟨w+1+1,4,none⟩ (.slice (some (a_ W)) 2 2)).alloc (.cells (exL kd n s o A m c ++ exL kd' n' s' o' A' m' c').toArray 209)):=(bel HW.o);refine ⟨⟨_,_,_,_,_,_,_,rfl,q_ ⟨vts_ex (SlP.two (us:=exL kd n s o A m c) (vs:=exL kd' n' s' o' A' m' c') (Bx.new' (exL kd n s o A m c ++ exL kd' n' s' o' A' m' c') 209 t_) HX.o d_ (H1.o.up (Kp.of_below hb) (l_)) P1.o (H2.o.up (Kp.of_below hb) (l_)) P2.o),pE_ex x_ (fun _=>l_) d_⟩⟩,hb⟩
theorem set_m (X:NP) (t:ByteArray) (kd n:Int) (s:ByteArray) (o:Int) (A:OA) (m c:Nat) (w:World) (ht:t.size<=100) (h1:ExV w X dE kd n s o A m c) (hX:∀ k,X k->k<w) :
  Calls prog 116 #[.string t,.agg #[i_ kd,i_ n,.string s,i_ o,.slice A m c]] w fun e w'=>RS X 0 e w'/\Below w w w':=by
 obtain ⟨W,hW,A1,A2,B0,B2⟩:=cn_ w (exL kd n s o A m c) 209 [i_ 0,.string ⟨#[]⟩,.string ⟨#[]⟩,i_ 0,i_ 0,.slice none 0 0,.slice none 0 0,.slice none 0 0] 212;have HB:=q_ B2;have HW:=q_ A1;have H1:=q_ h1.1;have P1:=q_ h1.2;have HX:=h_ (¬X W) (fun h=>by have:=hX _ h;omega);have hz:(w:Nat)+1<W:=by omega
 have A3:¬(w:Nat)+1=W:=by omega
 have A0:W=(w.alloc (.cells #[i_ kd,i_ n,.string s,i_ o,.slice A m c] 209)).alloc (.cells #[i_ 0,.string ⟨#[]⟩,.string ⟨#[]⟩,i_ 0,i_ 0,.slice none 0 0,.slice none 0 0,.slice none 0 0] 212):=hW;have HT:=q_ ht;have x0:=B0.2.1 0 _ rfl;have x1:=B0.2.1 1 _ rfl;have x2:=B0.2.1 2 _ rfl;have x3:=B0.2.1 3 _ rfl;have x4:=B0.2.1 4 _ rfl;have z0:=B2.2.1 0 _ rfl;have z1:=B2.2.1 1 _ rfl;have z2:=B2.2.1 2 _ rfl;have z3:=B2.2.1 3 _ rfl;have z4:=B2.2.1 4 _ rfl;have z5:=B2.2.1 5 _ rfl;have z6:=B2.2.1 6 _ rfl;have z7:=B2.2.1 7 _ rfl;have zf:=B2.2.2;clear B0 B2 A1 h1 hX hW A2 ht;go_enter func116,ntmps116;go_upto_region 1 with fail;rw [<-A0];clear A0;go_wp2;refine retC results116 zc_ underlying212 rfl k_ (cs:=[_,_,_,_,_,_,_,_]) (((((((((HB.o.set 0 _).set 1 _).set 2 _).set 3 _).set 4 _).set 5 _).set 6 _).set 7 _).alloc _).whole rfl ?_;have hb:Below w w (((((((((W.setCell (a_ (w+1)) (i_ 1)).setCell (f_ (w+1) 1) (.string t)).setCell (f_ (w+1) 2) (.string ⟨#[]⟩)).setCell (f_ (w+1) 3) (i_ 0)).setCell (f_ (w+1) 4) (i_ 0)).setCell (f_ (w+1) 5) (.slice (some (a_ W)) 1 1)).setCell (f_ (w+1) 6) (.slice none 0 0)).setCell (f_ (w+1) 7) (.slice none 0 0)).alloc (.cells (exL kd n s o A m c).toArray 209)):=(bel HW.o);refine ⟨⟨_,_,_,_,_,_,_,_,_,_,_,_,_,_,rfl,q_ ⟨ec_ (SlP.one (Bx.new' (exL kd n s o A m c) 209 t_) HX.o d_ (H1.o.up (Kp.of_below hb) (l_)) P1.o),pS_st x_ x_ x_ HT.o d_⟩⟩,hb⟩
theorem OwT.addr {X:NP} {w:World} {K base n c:Nat} {et:TypeId} {e:List CT} {A:OA} (h:OwT w base et e X K A n c) (hn:0<n):∃ g,A=some (a_ g)/\base<=g/\g<w/\∀ j,w.frozen? (f_ g j)=false:=by
 obtain ⟨xs,ho,_⟩:=h;exact dr_ ho hn
theorem OwT.lo {X:NP} {w:World} {K base n c k:Nat} {et:TypeId} {e:List CT} {A:OA} (h:OwT w base et e X K A n c) (hk:(Value.slice A n c).ownBlock=some k):base<=k/\k<w:=by
 obtain ⟨xs,ho,_⟩:=h;exact an_ ho hk
theorem put_t (X:NP) (K:Nat) (A:OA) (n c:Nat) (y:Cl) (w:World) (ha:SlT w X K aq_ A n c) (hK:K<=100000000000) (hX:∀ k,X k->k<w) :
  Calls prog 80 #[.slice A n c,.agg #[i_ y.id,i_ y.field,.bool y.ref,i_ y.n]] w fun e w'=>RSl X (K+1) aq_ e w'/\Below w w w':=by
 obtain ⟨i0,A3,A9,A8,A0⟩:=info_parts infoCl;obtain ⟨W,hW,Af,Al,B0⟩:=ag_ w [i_ y.id,i_ y.field,.bool y.ref,i_ y.n] 87;have KB:=q_ (fun w' (hb:Below W W w')=>B0.below hb);have Av:=ha.le;have HA:=h_ (SlT W (Wi X (Value.slice none 0 0).ownBlock) (K+1) aq_ A n c) ((ha.up (Kp.of_below Af) (Nat.le_refl K)).kept (Kp.refl _ _) (fun k _ h h2=>by rcases h2 with h2 | h2;exact h h2;cases h2) o_);have HW:=q_ Af;have Ao:(w:Nat)<W:=by omega
 have A2:=h_ (∀ k,X k->k<W) (fun k hk=>by have:=hX k hk;omega);clear ha hX B0 Af Al;go_enter func80,ntmps80;go_upto_region 1 with fail;rw [<-hW];clear hW;go_upto_region 2 with (at_builtin;refine ap_ rfl _ _ 54 rfl W 87 i0 _ 32 aq_ X (K+1) underlying54 A3 A9 A8 A0 rfl d_ none 0 0 zb_ (OwT.nil _ _ _ _ _ _) A n c zb_ HA.o A2.o m_ o_ (l_) ?_;intro A4 c4 w4 o4 g4 l4;rw [Nat.zero_add] at o4 l4 ⊢;have b4:Below W W w4:=al_ g4 (l_) (fun k hk=>by cases hk);have z4:=b4.size;have O4:=q_ o4;clear o4 l4 g4);have k0:=(KB.o w4 b4).2.1 0 _ rfl;have k1:=(KB.o w4 b4).2.1 1 _ rfl;have B4:=q_ b4;clear b4;go_wp2_with fail;refine (at_t X (K+1) A4 n c4 y.id y.field w4 (O4.o.slT A2.o o_) o_).mono ?_;rintro e w5 ⟨⟨q,rfl,hq⟩,Ag⟩;have B5:=q_ (B4.o.trans (Ag.mono z4));have z5:=B5.o.size;have O5:=q_ (O4.o.below Ag);clear Ag k0 k1;have k0:=(KB.o w5 B5.o).2.1 0 _ rfl;have k1:=(KB.o w5 B5.o).2.1 1 _ rfl;have k2:=(KB.o w5 B5.o).2.1 2 _ rfl;have k3:=(KB.o w5 B5.o).2.1 3 _ rfl;rcases hq.o with h | ⟨i,hi,h⟩
 ·subst h;have Ap:n<=c4:=(O5.o.slT A2.o (by omega:n<=K+1)).cap;have H5:=q_ (O5.o.slT A2.o (by omega:n<=K+1));go_upto_region 7 with fail;go_loopw [6] (fun iv wr=>∃ k:Nat,k<=n/\iv=i_ k/\Below w5 w5 wr) (fun iv _=>n - (intOf iv).toNat)
  case atStart=>exact ⟨0,o_,rfl,b_⟩
  obtain ⟨k,hk,rfl,hb⟩:=hrel;have Ac:Below W W wr:=B5.o.trans (hb.mono z5);have k0:=(KB.o wr Ac).2.1 0 _ rfl;have k1:=(KB.o wr Ac).2.1 1 _ rfl;by_cases hlt:k<n
  ·have Ah:(k:Int)<(n:Int):=by omega
   obtain ⟨g,o,hA,_,x,hx⟩:=H5.o.ds_ hlt;subst hA;obtain ⟨c0,c1,c2,c3⟩:=hx wr hb;clear hx Ac;have HB:=q_ hb;by_cases h1:x.id<y.id
   ·clear hb;go_wp2_with fail;go_quiet (fail);go_wp2;go_roundw
    case rel=>exact ⟨k+1,o_,za_,below_drewN ((bel HB.o)) _⟩
    case measure=>exact me_
   by_cases h2:x.id=y.id
   ·by_cases h3:x.field<y.field
    ·clear hb;go_wp2_with fail;go_quiet (fail);go_wp2;go_roundw
     case rel=>exact ⟨k+1,o_,za_,below_drewN ((bel HB.o)) _⟩
     case measure=>exact me_
    skip
    go_wp2_with fail;go_quiet (fail);go_upto_region 9 with fail;obtain ⟨A4,Aa⟩:=ex_ (some ((f_ g o):Addr));have H5:=q_ H5.o;rw [<-Aa] at H5 ⊢;clear Aa c0 c1 c2 c3;have hb:Below w5 w5 (wr.drewN nq):=below_drewN hb _;obtain ⟨V,hV⟩:=ex_ (wr.drewN nq);rw [<-hV] at hb ⊢;clear hV;have A1:Below W W V:=B5.o.trans (hb.mono z5);have zV:=A1.size;have Ak:=hb.size;have k0:=(KB.o V A1).2.1 0 _ rfl;have k1:=(KB.o V A1).2.1 1 _ rfl;have k2:=(KB.o V A1).2.1 2 _ rfl;have k3:=(KB.o V A1).2.1 3 _ rfl;have hd:Below V V V.drew:=Below.drew (b_);have HU:=h_ (∀ a b r m,SlT (V.drew.alloc (.cells #[i_ a,i_ b,.bool r,i_ m] 87)) X (K+1) aq_ (some (a_ V)) 1 1) (fun a b r m=>SlT.lit1 (w:=V.drew) (e:=aq_) (eg_ a b r m) _ (fun h=>by have:=A2.o _ h;have:(V.drew:Nat)=V:=rfl;omega) o_);have A5:=h_ (∀ o,Below V V (V.drew.alloc o)) (fun o=>hd.alloc (l_) o);have H9:=q_ (H5.o.up (Kp.of_below hb) (l_));have Ai:∀ w',(Instr.slice 54 (.slice A4 n c4) none (some (i_ (k:Int))) (some (i_ (k:Int)))).run prog w'=.ok (.slice A4 k k) w':=eu_ underlying54 A3 o_;have Aj:∀ w',(Instr.slice 54 (.slice A4 n c4) (some (i_ (k:Int))) none none).run prog w'=.ok (.slice (cutA A4 c4 k 4) (n - k) (c4 - k)) w':=fun w'=>by rw [el_ underlying54 A3 o_,A8]
    clear hd;go_region_law (first
     | (refine bq_ rfl (.tmp 63) (.tmp 66) 54 rfl 87 i0 _ 32 aq_ X (K+1) underlying54 A3 A9 A8 A0 rfl d_ (some (a_ V)) 1 1 v_ (HU.o _ _ _ _) (cutA A4 c4 k 4) (n - k) (c4 - k) zw_ ((H9.o.up (Kp.of_below (A5.o _)) (l_)).drop hk) o_ o_ (fun q A0=>by have:=A2.o q A0;first | (simp;omega) | (simp <;> omega)) m_ o_ ?_;intro A6 c6 w6 o6 b6;have b6:Below V V w6:=(A5.o _).trans (b6.mono (A5.o _).size);have Ad:=q_ (o6.slT (K:=K+1) (fun q A0=>by have:=A2.o q A0;first | (simp;omega) | (simp <;> omega)) o_);clear o6)
     | (refine bq_ rfl (.tmp 61) (.tmp 67) 54 rfl 87 i0 _ 32 aq_ X (K+1) underlying54 A3 A9 A8 A0 rfl d_ A4 k k v_ ((H9.o.up (Kp.of_below b6) (l_)).take hk k (l_) o_) A6 (1+(n - k)) c6 v_ Ad.o o_ o_ (fun q A0=>by have:=A2.o q A0;have:=b6.size;omega) m_ o_ ?_;intro A7 c7 w7 o7 b7;have b7:Below V V w7:=b6.trans (b7.mono (show (V:Nat)<=_ from b6.size));have O7:=q_ o7;clear o7))
    all_goals
     exact uw_
   skip
   go_wp2_with fail;go_quiet (fail);go_upto_region 9 with fail;obtain ⟨A4,Aa⟩:=ex_ (some ((f_ g o):Addr));have H5:=q_ H5.o;rw [<-Aa] at H5 ⊢;clear Aa c0 c1 c2 c3;have hb:Below w5 w5 (wr.drewN nq):=below_drewN hb _;obtain ⟨V,hV⟩:=ex_ (wr.drewN nq);rw [<-hV] at hb ⊢;clear hV;have A1:Below W W V:=B5.o.trans (hb.mono z5);have zV:=A1.size;have Ak:=hb.size;have k0:=(KB.o V A1).2.1 0 _ rfl;have k1:=(KB.o V A1).2.1 1 _ rfl;have k2:=(KB.o V A1).2.1 2 _ rfl;have k3:=(KB.o V A1).2.1 3 _ rfl;have hd:Below V V V.drew:=Below.drew (b_);have HU:=h_ (∀ a b r m,SlT (V.drew.alloc (.cells #[i_ a,i_ b,.bool r,i_ m] 87)) X (K+1) aq_ (some (a_ V)) 1 1) (fun a b r m=>SlT.lit1 (w:=V.drew) (e:=aq_) (eg_ a b r m) _ (fun h=>by have:=A2.o _ h;have:(V.drew:Nat)=V:=rfl;omega) o_);have A5:=h_ (∀ o,Below V V (V.drew.alloc o)) (fun o=>hd.alloc (l_) o);have H9:=q_ (H5.o.up (Kp.of_below hb) (l_));have Ai:∀ w',(Instr.slice 54 (.slice A4 n c4) none (some (i_ (k:Int))) (some (i_ (k:Int)))).run prog w'=.ok (.slice A4 k k) w':=eu_ underlying54 A3 o_;have Aj:∀ w',(Instr.slice 54 (.slice A4 n c4) (some (i_ (k:Int))) none none).run prog w'=.ok (.slice (cutA A4 c4 k 4) (n - k) (c4 - k)) w':=fun w'=>by rw [el_ underlying54 A3 o_,A8]
   clear hd;go_region_law (first
    | (refine bq_ rfl (.tmp 63) (.tmp 66) 54 rfl 87 i0 _ 32 aq_ X (K+1) underlying54 A3 A9 A8 A0 rfl d_ (some (a_ V)) 1 1 v_ (HU.o _ _ _ _) (cutA A4 c4 k 4) (n - k) (c4 - k) zw_ ((H9.o.up (Kp.of_below (A5.o _)) (l_)).drop hk) o_ o_ (fun q A0=>by have:=A2.o q A0;first | (simp;omega) | (simp <;> omega)) m_ o_ ?_;intro A6 c6 w6 o6 b6;have b6:Below V V w6:=(A5.o _).trans (b6.mono (A5.o _).size);have Ad:=q_ (o6.slT (K:=K+1) (fun q A0=>by have:=A2.o q A0;first | (simp;omega) | (simp <;> omega)) o_);clear o6)
    | (refine bq_ rfl (.tmp 61) (.tmp 67) 54 rfl 87 i0 _ 32 aq_ X (K+1) underlying54 A3 A9 A8 A0 rfl d_ A4 k k v_ ((H9.o.up (Kp.of_below b6) (l_)).take hk k (l_) o_) A6 (1+(n - k)) c6 v_ Ad.o o_ o_ (fun q A0=>by have:=A2.o q A0;have:=b6.size;omega) m_ o_ ?_;intro A7 c7 w7 o7 b7;have b7:Below V V w7:=b6.trans (b7.mono (show (V:Nat)<=_ from b6.size));have O7:=q_ o7;clear o7))
   all_goals
    exact uw_
  have Ah:¬(k:Int)<(n:Int):=by omega
  obtain rfl:k=n:=by omega
  have hz:k - k=0:=by omega
  clear Ac;go_wp2_with fail;go_quiet (fail);go_upto_region 9 with fail;have hb:Below w5 w5 (wr.drewN nq):=below_drewN hb _;obtain ⟨V,hV⟩:=ex_ (wr.drewN nq);rw [<-hV] at hb ⊢;clear hV;have A1:Below W W V:=B5.o.trans (hb.mono z5);have zV:=A1.size;have Ak:=hb.size;have k0:=(KB.o V A1).2.1 0 _ rfl;have k1:=(KB.o V A1).2.1 1 _ rfl;have k2:=(KB.o V A1).2.1 2 _ rfl;have k3:=(KB.o V A1).2.1 3 _ rfl;have hd:Below V V V.drew:=Below.drew (b_);have HU:=h_ (∀ a b r m,SlT (V.drew.alloc (.cells #[i_ a,i_ b,.bool r,i_ m] 87)) X (K+1) aq_ (some (a_ V)) 1 1) (fun a b r m=>SlT.lit1 (w:=V.drew) (e:=aq_) (eg_ a b r m) _ (fun h=>by have:=A2.o _ h;have:(V.drew:Nat)=V:=rfl;omega) o_);have A5:=h_ (∀ o,Below V V (V.drew.alloc o)) (fun o=>hd.alloc (l_) o);have H9:=q_ (H5.o.up (Kp.of_below hb) (l_));have Ai:∀ w',(Instr.slice 54 (.slice A4 k c4) none (some (i_ (k:Int))) (some (i_ (k:Int)))).run prog w'=.ok (.slice A4 k k) w':=eu_ underlying54 A3 o_;have Aj:∀ w',(Instr.slice 54 (.slice A4 k c4) (some (i_ (k:Int))) none none).run prog w'=.ok (.slice (cutA A4 c4 k 4) (k - k) (c4 - k)) w':=fun w'=>by rw [el_ underlying54 A3 o_,A8]
  clear hd;go_region_law (first
   | (refine step_append_zero rfl (.tmp 63) (.tmp 66) 54 rfl 87 i0 underlying54 A3 (some (a_ V)) 1 1 (l_) v_ (cutA A4 c4 k 4) (c4 - k) zw_ ?_)
   | (refine bq_ rfl (.tmp 61) (.tmp 67) 54 rfl 87 i0 _ 32 aq_ X (K+1) underlying54 A3 A9 A8 A0 rfl d_ A4 k k v_ ((H9.o.up (Kp.of_below (A5.o _)) (l_)).take hk k (l_) o_) (some (a_ V)) 1 1 v_ (HU.o _ _ _ _) o_ o_ (fun q A0=>by have:=A2.o q A0;first | (simp;omega) | (simp <;> omega)) m_ o_ ?_;intro A7 c7 w7 o7 b7;have b7:Below V V w7:=(A5.o _).trans (b7.mono (show (V:Nat)<=_ from (A5.o _).size));have O7:=q_ o7;clear o7))
  all_goals
   go_wp2;go_ret;exact ⟨⟨_,_,_,rfl,q_ (O7.o.slT (fun q A0=>by have:=A2.o q A0;have:=b7.size;simp <;> omega) o_)⟩,(HW.o.trans (A1.mono HW.o.size)).trans (b7.mono xn_)⟩
 subst h;have Au:(i:Int)<(n:Int):=by omega
 have An:¬(i:Int)<0:=by omega
 obtain ⟨g,rfl,Aq,Ar,Ab⟩:=O5.o.addr o_;obtain ⟨g',o',Ae,_,x,hx⟩:=(O5.o.slT A2.o (by omega:n<=K+1)).ds_ hi;injection Ae with Ae;injection Ae with h1 h2;subst h1 h2;obtain ⟨c0,c1,c2,c3⟩:=hx w5 (b_);rw [Nat.zero_add] at c0 c1 c2 c3;have f0:=Ab (i*4);have f1:=Ab (i*4+1);have f2:=Ab (i*4+2);have f3:=Ab (i*4+3);have As:w≠g:=by omega
 clear hx Ab;go_wp2;go_ret;have s0:=O5.o.set (k:=i) (j:=0) hi rfl (.num y.id) ⟨g,i*4,none⟩ rfl;have s1:=s0.set (k:=i) (j:=1) hi rfl (.num y.field) ⟨g,i*4+1,none⟩ rfl;have s2:=s1.set (k:=i) (j:=2) hi rfl (.tru y.ref) ⟨g,i*4+2,none⟩ rfl;have s3:=s2.set (k:=i) (j:=3) hi rfl (.num y.n) ⟨g,i*4+3,none⟩ rfl;have Am:Below w w w5:=HW.o.trans (B5.o.mono HW.o.size);exact ⟨⟨_,_,_,rfl,q_ (s3.slT A2.o o_)⟩,(((Am.setCell yb_ _).setCell yb_ _).setCell yb_ _).setCell yb_ _⟩
section
variable {X:XE} {w w':World}
structure IC (d b lp:Nat) (X:XE) (Inv:World->Prop):Prop where
 ok:∀ w,Inv w->Mk d b lp w
 zx:∀ k,Zm d b k->X k
 lt:∀ w,Inv w->∀ k,X k->k<w
 up:∀ w w',Inv w->Mk d b lp w'->Kp (Zm d b) w w'->Inv w'
 ex:∀ w w',Inv w->Kp (Zm d b) w w'->X.e w->X.e w'
theorem IC.below {d b lp:Nat} {Inv:World->Prop} (h:IC d b lp X Inv) (hI:Inv w) (hb:Below w w w'):Inv w':=h.up w w' hI ((h.ok w hI).below hb) (.of_below hb)
def kV (X:XE) (v:Value):SK X:=⟨fun _ u=>u=v,fun _ _ _ _ _ h=>h⟩
def kNat (X:XE) (n:Nat):SK X:=⟨fun _ u=>∃ r:Nat,r<n/\u=i_ r,fun _ _ _ _ _ h=>h⟩
def kInt (X:XE):SK X:=⟨fun _ u=>∃ r:Int,u=i_ r,fun _ _ _ _ _ h=>h⟩
def kStr (X:XE):SK X:=⟨fun _ u=>∃ s:ByteArray,u=.string s/\s.size<=100,fun _ _ _ _ _ h=>h⟩
def bu_ (X:XE) (n:Nat):SK X:=⟨fun w u=>∃ g,u=.slice (some (a_ g)) n n/\g<w/\¬X g/\∀ i,i<n->∃ s:ByteArray,w.cell? (f_ g i)=some (.string s)/\s.size<=100,fun w w' u hk _ ⟨g,e,hg,hX,hc⟩=>⟨g,e,lt_ hg hk.size,hX,fun i hi=>by
 obtain ⟨s,hs,hz⟩:=hc i hi
 exact ⟨s,(hk.cell hg hX).trans hs,hz⟩⟩⟩
def kInts (X:XE) (n:Nat):SK X:=⟨fun w u=>∃ g,u=.slice (some (a_ g)) n n/\g<w/\¬X g/\∀ i,i<n->∃ s:Int,w.cell? (f_ g i)=some (i_ s)/\s≠3/\s≠5/\s≠6,fun w w' u hk _ ⟨g,e,hg,hX,hc⟩=>⟨g,e,lt_ hg hk.size,hX,fun i hi=>by
 obtain ⟨s,hs,hz⟩:=hc i hi
 exact ⟨s,(hk.cell hg hX).trans hs,hz⟩⟩⟩
def kInts' (X:XE) (n:Nat):SK X:=⟨fun w u=>∃ g,u=.slice (some (a_ g)) n n/\g<w/\¬X g/\∀ i,i<n->∃ s:Int,w.cell? (f_ g i)=some (i_ s),fun w w' u hk _ ⟨g,e,hg,hX,hc⟩=>⟨g,e,lt_ hg hk.size,hX,fun i hi=>by
 obtain ⟨s,hs⟩:=hc i hi
 exact ⟨s,(hk.cell hg hX).trans hs⟩⟩⟩
def di_ (X:XE):SK X:=⟨fun w u=>∃ g o,∃ s:ByteArray,u=.pointer (some (f_ g o))/\g<w/\¬X g/\w.cell? (f_ g o)=some (.string s)/\s.size<=100,fun w w' u hk _ ⟨g,o,s,e,hg,hX,hc,hz⟩=>⟨g,o,s,e,lt_ hg hk.size,hX,(hk.cell hg hX).trans hc,hz⟩⟩
def kPInt (X:XE):SK X:=⟨fun w u=>∃ g o,∃ s:Int,u=.pointer (some (f_ g o))/\g<w/\¬X g/\w.cell? (f_ g o)=some (i_ s)/\s≠3/\s≠5/\s≠6,fun w w' u hk _ ⟨g,o,s,e,hg,hX,hc,hz⟩=>⟨g,o,s,e,lt_ hg hk.size,hX,(hk.cell hg hX).trans hc,hz⟩⟩
def kPInt' (X:XE):SK X:=⟨fun w u=>∃ g o,∃ s:Int,u=.pointer (some (f_ g o))/\g<w/\¬X g/\w.cell? (f_ g o)=some (i_ s),fun w w' u hk _ ⟨g,o,s,e,hg,hX,hc⟩=>⟨g,o,s,e,lt_ hg hk.size,hX,(hk.cell hg hX).trans hc⟩⟩
def kKind (X:XE):SK X:=⟨fun _ u=>∃ s:Int,u=i_ s/\s≠3/\s≠5/\s≠6,fun _ _ _ _ _ h=>h⟩
theorem ExV.kp {d:Nat} {kd n:Int} {s:ByteArray} {op:Int} {A:OA} {m c:Nat} (h:ExV w X d kd n s op A m c) (hk:Kp X w w'):ExV w' X d kd n s op A m c:=⟨h.1.up hk (l_),h.2⟩
def kEx (X:XE) (d:Nat):SK X:=⟨fun w u=>∃ (kd n:Int) (s:ByteArray) (op:Int) (A:OA) (m c:Nat),u=.agg #[i_ kd,i_ n,.string s,i_ op,.slice A m c]/\ExV w X d kd n s op A m c,fun w w' u hk _ ⟨kd,n,s,op,A,m,c,e,h⟩=>⟨kd,n,s,op,A,m,c,e,h.kp hk⟩⟩
def StV (w:World) (X:XE) (d:Nat) (kd:Int) (s f:ByteArray) (n op:Int) (A:OA) (m c:Nat) (B:OA) (m1 c1:Nat) (C:OA) (m2 c2:Nat):Prop:=VTs w X 20 (ah_ d) (stL kd s f n op A m c B m1 c1 C m2 c2)/\pS (stL kd s f n op A m c B m1 c1 C m2 c2)
def kSt (X:XE) (d:Nat):SK X:=⟨fun w u=>∃ (kd:Int) (s f:ByteArray) (n op:Int) (A:OA) (m c:Nat) (B:OA) (m1 c1:Nat) (C:OA) (m2 c2:Nat),u=.agg #[i_ kd,.string s,.string f,i_ n,i_ op,.slice A m c,.slice B m1 c1,.slice C m2 c2]/\StV w X d kd s f n op A m c B m1 c1 C m2 c2,
 fun w w' u hk _ ⟨kd,s,f,n,op,A,m,c,B,m1,c1,C,m2,c2,e,h⟩=>⟨kd,s,f,n,op,A,m,c,B,m1,c1,C,m2,c2,e,h.1.up hk (l_),h.2⟩⟩
def kExs (X:XE) (d n:Nat):SK X:=⟨fun w u=>∃ A c,u=.slice A n c/\SlP w X 20 pE (be_ d) A n c,fun w w' u hk _ ⟨A,c,e,h⟩=>⟨A,c,e,h.kept hk (fun _ _ h=>h) (l_)⟩⟩
def kSts (X:XE) (d q:Nat):SK X:=⟨fun w u=>∃ A n c,u=.slice A n c/\n<=q/\SlP w X 20 pS (ah_ d) A n c,fun w w' u hk _ ⟨A,n,c,e,hq,h⟩=>⟨A,n,c,e,hq,h.kept hk (fun _ _ h=>h) (l_)⟩⟩
end
section
variable {P:Program} {Q:Exit->Act->World->Prop} {X:XE} {Inv:World->Prop} {κ:SK X} {o:Oper} {a:Act} {w:World}
theorem bs_ {v:Value} (hr:(execOp a.eval o).run P w=.ok (.value v) w) (hv:κ.p w v) (hI:Inv w):RnK P Q X Inv κ o a w:=fun K hK=>by
 unfold Oper.wp;rw [hr];exact hK _ _ (Kp.refl _ _) (fun h=>h) hI hv
theorem rk_to {v:Value} {w':World} (hr:(execOp a.eval o).run P w=.ok (.value v) w') (hk:Kp X w w') (he:X.e w->X.e w') (hv:κ.p w' v) (hI:Inv w'):RnK P Q X Inv κ o a w:=fun K hK=>by
 unfold Oper.wp;rw [hr];exact hK _ _ hk he hI hv
theorem cm_ {f:Nat} {args:Array Value} (hr:(execOp a.eval o).run P w=.ok (.enter f args) w) (hc:Calls P f args w (fun e w'=>∃ v,e=.returned v/\Kp X w w'/\(X.e w->X.e w')/\Inv w'/\κ.p w' v)):RnK P Q X Inv κ o a w:=fun K hK=>by
 unfold Oper.wp;rw [hr];show Calls _ _ _ _ _
 refine hc.mono ?_;rintro e w' ⟨v,rfl,h1,h0,h2,h3⟩;exact hK _ _ h1 h0 h2 h3
theorem bp_ {x:Operand} (ho:o.op=.move x\/o.op=.assign x) (hx:κ.p w (a.eval x)) (hI:Inv w):RnK P Q X Inv κ o a w:=by
 generalize hr:a.eval=r at hx;exact bs_ (v:=r x) vf_ hx hI
theorem cd_ {x:Operand} {p:Addr} (ho:o.op=.nilCheck x) (hx:a.eval x=.pointer (some p)) (hI:Inv w):RnK P Q X Inv (kV X (.pointer (some p))) o a w:=by
 generalize hr:a.eval=r at hx;exact bs_ (v:=.pointer (some p)) (by rw [hr];simp [execOp,ho,hx,go_sem]) rfl hI
end
section
variable {Q:Exit->Act->World->Prop} {X:XE} {Inv:World->Prop} {o:Oper} {a:Act} {w:World} {d b lp:Nat}
theorem cc_ {x:Operand} {f:Nat} (hf:f<4) (ho:o.op=.fieldAddr 205 x f) (hx:a.eval x=.pointer (some (a_ b))) (hI:Inv w):RnK prog Q X Inv (kV X (.pointer (some (f_ b f)))) o a w:=by
 generalize hr:a.eval=r at hx;refine bs_ (v:=.pointer (some (f_ b f))) ?_ rfl hI;rw [hr]
 match f,hf with
 | 0,_=>simp [execOp,ho,hx,go_sem]
 | 1,_=>simp [execOp,ho,hx,go_sem]
 | 2,_=>simp [execOp,ho,hx,go_sem]
 | 3,_=>simp [execOp,ho,hx,go_sem]
theorem rk_load {x:Operand} {T:TypeId} {p:Addr} {v:Value} {κ:SK X} (hT:T=3\/T=2\/T=9\/T=45\/T=192\/T=207) (ho:o.op=.load T x) (hx:a.eval x=.pointer (some p)) (hc:w.cell? p=some v) (hv:κ.p w v) (hI:Inv w):RnK prog Q X Inv κ o a w:=by
 generalize hr:a.eval=r at hx;refine bs_ (v:=v) ?_ hv hI;rw [hr];rcases hT with rfl | rfl | rfl | rfl | rfl | rfl <;> simp [execOp,ho,hx,hc,go_sem]
theorem bm_ {x:Operand} (hC:IC d b lp X Inv) (ho:o.op=.load 45 x) (hx:a.eval x=.pointer (some (a_ b))) (hI:Inv w):RnK prog Q X Inv (kV X (pt d)) o a w :=
 rk_load (.inr (.inr (.inr (.inl rfl)))) ho hx (hC.ok w hI).c0 rfl hI
theorem ep_ {x:Operand} (ho:o.op=.load 9 x) (hx:(di_ X).p w (a.eval x)) (hI:Inv w):RnK prog Q X Inv (kStr X) o a w:=by
 obtain ⟨g,q,s,e,hg,hX,hc,hz⟩:=hx;exact rk_load (.inr (.inr (.inl rfl))) ho e hc ⟨s,rfl,hz⟩ hI
theorem rk_lint {x:Operand} (ho:o.op=.load 3 x) (hx:(kPInt X).p w (a.eval x)) (hI:Inv w):RnK prog Q X Inv (kKind X) o a w:=by
 obtain ⟨g,q,s,e,hg,hX,hc,hz⟩:=hx;exact rk_load (.inl rfl) ho e hc ⟨s,rfl,hz⟩ hI
theorem rk_lint' {x:Operand} (ho:o.op=.load 3 x) (hx:(kPInt' X).p w (a.eval x)) (hI:Inv w):RnK prog Q X Inv (kInt X) o a w:=by
 obtain ⟨g,q,s,e,hg,hX,hc⟩:=hx;exact rk_load (.inl rfl) ho e hc ⟨s,rfl⟩ hI
theorem br_ {x:Operand} {n:Nat} {y:Operand} (hC:IC d b lp X Inv) (ho:o.op=.call { callee:=.value (.func 26),args:=#[x,y],argTypes:=#[45,3] }) (hx:a.eval x=.pointer (some (a_ d))) (hy:a.eval y=i_ n) (h1:1<=n) (hn:n<=1000000) (hI:Inv w):RnK prog Q X Inv (kNat X n) o a w:=by
 have hf:a.eval (.func 26)=.func (.func 26) #[] #[]:=rfl;generalize hr:a.eval=r at hx hy hf;refine cm_ (f:=26) (args:=#[.pointer (some (a_ d)),i_ n]) yc_ ((bf_ d n w (hC.ok w hI).dice h1 hn).mono ?_);rintro e w' ⟨q,hq,rfl,ht,_⟩;exact ⟨_,rfl,(ht.kp b).mono (fun k _ hk=>hC.zx k hk),hC.ex w w' hI (ht.kp b),hC.up w w' hI ((hC.ok w hI).thrown ht) (ht.kp b),q,hq,rfl⟩
theorem rk_num {x:Operand} {n:Int} (hC:IC d b lp X Inv) (ho:o.op=.call { callee:=.value (.func 118),args:=#[x],argTypes:=#[2] }) (hx:a.eval x=i_ n) (hI:Inv w):RnK prog Q X Inv (kEx X 0) o a w:=by
 have hf:a.eval (.func 118)=.func (.func 118) #[] #[]:=rfl;generalize hr:a.eval=r at hx hf;refine cm_ (f:=118) (args:=#[i_ n]) yu_ ((num_m n w).mono ?_);rintro e w' ⟨rfl,hb⟩;exact ⟨_,rfl,.of_below hb,hC.ex w w' hI (.of_below hb),hC.below hI hb,_,_,_,_,_,_,_,rfl,vts_ex0 _ _ _ _,pE_ex x_ x_ d_⟩
theorem eq_ {x:Operand} (hC:IC d b lp X Inv) (ho:o.op=.call { callee:=.value (.func 119),args:=#[x],argTypes:=#[9] }) (hx:(kStr X).p w (a.eval x)) (hI:Inv w):RnK prog Q X Inv (kEx X 0) o a w:=by
 obtain ⟨s,hs,hz⟩:=hx;have hf:a.eval (.func 119)=.func (.func 119) #[] #[]:=rfl;generalize hr:a.eval=r at hs hf;refine cm_ (f:=119) (args:=#[.string s]) (by rw [hr];simp [execOp,ho,hs,hf,go_sem]) ((name_m s w).mono ?_);rintro e w' ⟨rfl,hb⟩;exact ⟨_,rfl,.of_below hb,hC.ex w w' hI (.of_below hb),hC.below hI hb,_,_,_,_,_,_,_,rfl,vts_ex0 _ _ _ _,pE_ex x_ x_ hz⟩
theorem rk_names (hC:IC d b lp X Inv) (ho:o.op=.call { callee:=.value (.func 167),args:=#[],argTypes:=#[] }) (hI:Inv w):RnK prog Q X Inv (bu_ X 5) o a w:=by
 have hf:a.eval (.func 167)=.func (.func 167) #[] #[]:=rfl;generalize hr:a.eval=r at hf;refine cm_ (f:=167) (args:=#[]) (by rw [hr];simp [execOp,ho,hf,go_sem]) ((names_m w).mono ?_);rintro e w' ⟨rfl,hz,hb,hc⟩;exact ⟨_,rfl,.of_below hb,hC.ex w w' hI (.of_below hb),hC.below hI hb,w,rfl,o_,fun h=>by have:=hC.lt w hI _ h;omega,hc⟩
theorem rk_len {x:Operand} {n:Nat} (ho:o.op=.call { callee:=.builtin .len,args:=#[x],argTypes:=#[188] }) (hx:(bu_ X n).p w (a.eval x)) (hI:Inv w):RnK prog Q X Inv (kV X (i_ n)) o a w:=by
 obtain ⟨g,e,_⟩:=hx;generalize hr:a.eval=r at e;refine bs_ (v:=i_ n) ?_ rfl hI;rw [hr];simp [execOp,ho,e,go_sem]
theorem rk_idx {x y:Operand} {n:Nat} (ho:o.op=.indexAddr 188 x y) (hx:(bu_ X n).p w (a.eval x)) (hy:(kNat X n).p w (a.eval y)) (hI:Inv w):RnK prog Q X Inv (di_ X) o a w:=by
 obtain ⟨g,e,hg,hX,hc⟩:=hx;obtain ⟨i,hi,e2⟩:=hy;obtain ⟨s,hs,hz⟩:=hc i hi;generalize hr:a.eval=r at e e2;refine bs_ (v:=.pointer (some (f_ g i))) ?_ ⟨g,i,s,rfl,hg,hX,hs,hz⟩ hI;rw [hr];have A0:(i:Int)<(n:Int):=by omega
 simp [execOp,ho,e,e2,A0,go_sem]
theorem rk_idxi {x y:Operand} {n:Nat} (ho:o.op=.indexAddr 30 x y) (hx:(kInts X n).p w (a.eval x)) (hy:(kNat X n).p w (a.eval y)) (hI:Inv w):RnK prog Q X Inv (kPInt X) o a w:=by
 obtain ⟨g,e,hg,hX,hc⟩:=hx;obtain ⟨i,hi,e2⟩:=hy;obtain ⟨s,hs,hz⟩:=hc i hi;generalize hr:a.eval=r at e e2;refine bs_ (v:=.pointer (some (f_ g i))) ?_ ⟨g,i,s,rfl,hg,hX,hs,hz⟩ hI;rw [hr];have A0:(i:Int)<(n:Int):=by omega
 simp [execOp,ho,e,e2,A0,go_sem]
theorem rk_idxi' {x y:Operand} {n:Nat} (ho:o.op=.indexAddr 30 x y) (hx:(kInts' X n).p w (a.eval x)) (hy:(kNat X n).p w (a.eval y)) (hI:Inv w):RnK prog Q X Inv (kPInt' X) o a w:=by
 obtain ⟨g,e,hg,hX,hc⟩:=hx;obtain ⟨i,hi,e2⟩:=hy;obtain ⟨s,hs⟩:=hc i hi;generalize hr:a.eval=r at e e2;refine bs_ (v:=.pointer (some (f_ g i))) ?_ ⟨g,i,s,rfl,hg,hX,hs⟩ hI;rw [hr];have A0:(i:Int)<(n:Int):=by omega
 simp [execOp,ho,e,e2,A0,go_sem]
end
def GivesO (x:PO) (w:World) (e:Ending) (w':World):Prop:=∃ (A:OA) (n c:Nat),e=.returned (.agg #[i_ x.id,.slice A n c])/\Hid (w'.ownsRow w 38 2 (.slice A n c) n (x.s.flatMap Val.cells))/\n=x.s.length/\Below w w w'
def getO (id:Int) (l:List PO):PO:=match idx id l with | some i=>(match l[i]? with | some x=>x | none=>⟨0,[]⟩) | none=>⟨0,[]⟩
def getB (id:Int) (l:List PO):Bool:=(idx id l).isSome
def GivesB (x:PO) (b:Bool) (w:World) (e:Ending) (w':World):Prop:=∃ (A:OA) (n c:Nat),e=.returned (.tuple #[.agg #[i_ x.id,.slice A n c],.bool b])/\n<=8796093021952/\Hid (Sl w' w' 2 Val.cells A n x.s)/\Hid (∀ ad,A=some ad->w<=ad.block)/\Below w w w'
theorem object_any (x:Ob) (w:World) (hx:Sl w w 2 Val.cells x.A x.n x.s) (hn:x.n<=8796093021952) :
  Calls prog 179 #[.agg #[i_ x.id,.slice x.A x.n x.c]] w (GivesO x.po w):=by
 obtain ⟨id,A,n,c,s⟩:=x;simp only at hx hn ⊢;obtain ⟨i0,hi,A9,Aa,Ab⟩:=info_parts CloneVal.infoE;obtain ⟨w2,A0⟩:=ex_ ((w.alloc (.cells #[i_ id,.slice A n c] 90)).alloc (.cells #[i_ 0,.slice none 0 0] 90));have A5:Below w w w2:=by rw [A0];exact (bel (b_))
 have Ac:(w2:Nat)=w+2:=by rw [A0];simp
 have c0:w2.cell? (a_ w)=some (i_ id):=by rw [A0,ak_ _ _ _ _ t_,ar_ _ _ _ _ _ rfl];rfl
 have c1:w2.cell? (f_ w 1)=some (.slice A n c):=by rw [A0,ak_ _ _ _ _ t_,ar_ _ _ _ _ _ rfl];rfl
 have d0:w2.cell? (a_ (w+1))=some (i_ 0):=by rw [A0,ar_ _ _ _ _ _ t_];rfl
 have d1:w2.cell? (f_ (w+1) 1)=some (.slice none 0 0):=by rw [A0,ar_ _ _ _ _ _ t_];rfl
 have f0:∀ j,w2.frozen? (f_ (w+1) j)=false:=fun j=>by rw [A0,bw_ _ _ _ _ _ t_]
 have f1:∀ j,w2.frozen? (f_ w j)=false:=fun j=>by rw [A0,dv_ _ _ _ _ t_,bw_ _ _ _ _ _ t_]
 have A7:=q_ (hx.up A5);have HS:=q_ (A7.o.src Val.size);have HL:=q_ hx.len;clear hx;go_enter func179,ntmps179;go_wp2_with (at_builtin;rw [<-A0];refine ca_ rfl _ _ 88 rfl w2 38 i0 _ 2 16 underlying88 hi A9 Aa Ab rfl d_ (.slice none 0 0) 0 [] zb_ (World.ownsRow_nil _ _ _ _) A n c (s.flatMap Val.cells) zb_ HS.o.1 (by rw [ee_ Val.size,HL.o]) HS.o.2 (val_one s) m_ o_ (l_) ?_;intro A3 c3 w3 A2 A4 A8;have H3:=q_ A2;have A1:Below w2 w2 w3:=(b_).grown A4 (l_) (fun k hk=>by cases hk);have e0:=(belc A1 (b:=w) (o:=0) o_).trans c0;have e1:=(belc A1 (b:=w) (o:=1) o_).trans c1;have e2:=(belc A1 (b:=w+1) (o:=0) o_).trans d0;have e3:=(belc A1 (b:=w+1) (o:=1) o_).trans d1;have g0:=(belf A1 (b:=w+1) (o:=0) o_).trans (f0 0);have g1:=(belf A1 (b:=w+1) (o:=1) o_).trans (f0 1);have g2:=(belf A1 (b:=w) (o:=1) o_).trans (f1 1);clear A2 A4 A8);refine bodyPost_ret (v:=.agg #[i_ id,.slice A3 n c3]) (by simp [results,results179,go_sem,e2,e3]) rfl ?_;have A6:∀ p:Addr,p.block<w2->(Value.slice A3 n c3).ownBlock≠some p.block:=fun p hp h=>by
  have:=(an_ (own_eq (Nat.zero_add n) H3.o) h).1;omega
 refine ⟨A3,n,c3,rfl,q_ (own_mono (ba_ (ba_ (ba_ (own_eq (Nat.zero_add n) H3.o) _ (A6 _ xt_)) _ (A6 _ (by show (w:Nat)+1<_;omega))) _ (A6 _ (by show (w:Nat)+1<_;omega))) o_),HL.o.symm,?_⟩;exact (((A5.trans (A1.mono A5.size)).setCell t_ _).setCell t_ _).setCell t_ _
theorem refget_any (A:OA) (n c:Nat) (l:List Ob) (id:Int) (w:World) (hs:Hp w w.heap.size A n l) (hn:n<=9000000000000) :
  Calls prog 133 #[.agg #[.slice A n c],i_ id] w (GivesB (getO id (l.map Ob.po)) (getB id (l.map Ob.po)) w):=by
 have HO:=q_ hs.obs;obtain ⟨w2,A1⟩:=ex_ ((w.alloc (.cells #[.slice A n c] 35)).alloc (.cells #[i_ 0,.slice none 0 0] 90));have A9:Below w.heap.size w w2:=by rw [A1];exact (bel (b_))
 have Al:w2.heap.size=w.heap.size+2:=by rw [A1];simp
 have HC:=h_ (w2.cell? (a_ w.heap.size)=some (.slice A n c)) (by rw [A1,ak_ _ _ _ _ t_,ar_ _ _ _ _ _ rfl];rfl);have Ae:=h_ (w2.cell? (a_ (w.heap.size+1))=some (i_ 0)) (by rw [A1,ar_ _ _ _ _ _ t_];rfl);have Af:=h_ (w2.cell? (f_ (w.heap.size+1) 1)=some (.slice none 0 0)) (by rw [A1,ar_ _ _ _ _ _ t_];rfl);have HF:=h_ (∀ j,w2.frozen? (f_ (w.heap.size+1) j)=false) (fun j=>by rw [A1,bw_ _ _ _ _ _ t_]);have Ag:=q_ (hs.sl.up A9);go_enter func133,ntmps133;go_wp2_with fail;rw [<-A1];have HW:=q_ A1;clear A1;refine (refat_any A n c l id w2 Ag.o hn).mono ?_;rintro e w3 ⟨rfl,A2⟩;have e0:w3.cell? (a_ w.heap.size)=some (.slice A n c):=(belc A2 o_).trans HC.o;have e1:w3.cell? (a_ (w.heap.size+1))=some (i_ 0):=(belc A2 o_).trans Ae.o;have e2:w3.cell? (f_ (w.heap.size+1) 1)=some (.slice none 0 0):=(belc A2 o_).trans Af.o;have f0:w3.frozen? (a_ (w.heap.size+1))=false:=(belf A2 o_).trans (HF.o 0);have f1:w3.frozen? (f_ (w.heap.size+1) 1)=false:=(belf A2 o_).trans (HF.o 1);have A3:Below w.heap.size w w3:=A9.trans (A2.mono A9.size);have Am:=A2.size;rcases ek_ id (l.map Ob.po) with ⟨hi,_⟩ | ⟨i,x,hi,hx,hxid,hfst⟩
 ·have A6:=h_ (getO id (l.map Ob.po)=⟨0,[]⟩) (by rw [getO,hi]);have A7:=h_ (getB id (l.map Ob.po)=false) (by rw [getB,hi];rfl);have HI:=h_ (idxI id (l.map Ob.po)=-1) y0_;clear hi;rw [HI.o];go_wp2;refine bodyPost_ret (v:=.tuple #[.agg #[i_ 0,.slice none 0 0],.bool false]) (by simp [results,results133,go_sem,e1,e2]) rfl ?_;rw [A6.o,A7.o];exact ⟨none,0,0,rfl,o_,q_ Sl.nil,q_ (fun _ h=>by cases h),(bel A3)⟩
 clear hxid hfst;obtain ⟨o,ho,rfl⟩:=po_at' hx;have hin:i<n:=by rw [<-hs.sl.len];exact (e_ ho).1
 obtain ⟨o1,o2⟩:=HO.o o (List.mem_of_getElem? ho);obtain ⟨ab,ao,rfl,Ac,A8⟩:=hs.sl.at_ o_;have c0:w3.cell? ⟨ab,ao+i*2,none⟩=some (i_ o.id):=(belc A3 Ac).trans (A8 i o ho 0 _ rfl);have c1:w3.cell? ⟨ab,ao+i*2+1,none⟩=some (.slice o.A o.n o.c):=(belc A3 Ac).trans (A8 i o ho 1 _ rfl);have HI:=h_ (idxI id (l.map Ob.po)=i) y0_;have A6:=h_ (getO id (l.map Ob.po)=o.po) (by rw [getO,hi];simp only [hx]);have A7:=h_ (getB id (l.map Ob.po)=true) (by rw [getB,hi];rfl);have O3:=q_ (o1.up A3);have Ah:=q_ o1.len;have Ak:¬(i:Int)<0:=by omega
 clear A8 hx ho hi o1;rw [HI.o];go_wp2_with fail;refine (object_any o w3 O3.o o2).mono ?_;rintro e w4 ⟨A4,n4,c4,rfl,A0,Ad,A5⟩;have g1:w4.cell? (a_ (w.heap.size+1))=some (i_ 0):=(belc A5 o_).trans e1;have g2:w4.cell? (f_ (w.heap.size+1) 1)=some (.slice none 0 0):=(belc A5 o_).trans e2;have k0:w4.frozen? (a_ (w.heap.size+1))=false:=(belf A5 o_).trans f0;have k1:w4.frozen? (f_ (w.heap.size+1) 1)=false:=(belf A5 o_).trans f1;have Aj:=A3.trans (A5.mono A3.size);have Aa:=q_ Ad;clear Ad;go_wp2;refine bodyPost_ret (v:=.tuple #[.agg #[i_ o.id,.slice A4 n4 c4],.bool true]) (by simp [results,results133,go_sem,g1,g2,Ob.po]) rfl ?_;rw [A6.o,A7.o];have Ab:(Value.slice A4 n4 c4).ownBlock≠some (w.heap.size+1):=fun h=>by
  have:=(an_ A0.o h).1;omega
 refine ⟨A4,n4,c4,rfl,?_,q_ (Sl.da_ Val.size Aa.o.symm (ba_ (ba_ A0.o _ Ab) _ Ab)),q_ (fun ad Ai=>by subst Ai;have:=(an_ A0.o (k:=ad.block) rfl).1;omega),(bel Aj)⟩;have h1:=Aa.o;have h2:o.s.length=o.n:=Ah.o;have h3:o.po.s.length=o.s.length:=rfl;omega
structure In where
 op:Int
 a:Int
 b:Int
 c:Int
 n:Int
def In.cells (x:In):VL:=[i_ x.op,i_ x.a,i_ x.b,i_ x.c,i_ x.n]
def ay_:List CT:=[.num,.num,.num,.num,.num]
theorem VTs.inst {X:NP} {w:World} {K:Nat} {vs:VL} (h:VTs w X K ay_ vs):∃ x:In,vs=x.cells:=by
 obtain ⟨a,r1,rfl,ha,h1⟩:=h.head;obtain ⟨b,r2,rfl,hb,h2⟩:=h1.head;obtain ⟨c,r3,rfl,hc,h3⟩:=h2.head;obtain ⟨d,r4,rfl,hd,h4⟩:=h3.head;obtain ⟨e,r5,rfl,he,h5⟩:=h4.head;obtain ⟨a,rfl⟩:=ha.int;obtain ⟨b,rfl⟩:=hb.int;obtain ⟨c,rfl⟩:=hc.int;obtain ⟨d,rfl⟩:=hd.int;obtain ⟨e,rfl⟩:=he.int;rw [h5.end];exact ⟨⟨a,b,c,d,e⟩,rfl⟩
theorem SlT.insts {X:NP} {w:World} {K:Nat} {A:OA} {n c:Nat} (h:SlT w X K ay_ A n c):∃ l:List In,Sl w w 5 In.cells A n l:=by
 obtain ⟨l,hl,_⟩:=h.list In.cells (fun _=>True) (fun vs hv=>by obtain ⟨x,rfl⟩:=hv.inst;exact ⟨x,rfl,trivial⟩);exact ⟨l,hl⟩
def opAt (l:List In) (n:Int):Int:=if 0<=n then (match l[n.toNat]? with | some x=>x.op | none=>-1) else -1
theorem opAt_nat (l:List In) (k:Nat):opAt l (k:Int)=(match l[k]? with | some x=>x.op | none=>-1):=by
 unfold opAt;rw [if_pos o_,Int.toNat_natCast]
structure OkI (l:List In) (i:Nat) (x:In):Prop where
 op:0<=x.op/\x.op<=21
 a:0<=x.a/\x.a<16
 b:x.op≠13->x.op≠10->0<=x.b/\x.b<16
 c:x.op≠13->0<=x.c/\x.c<16
 call:x.op=13->(0<=x.b/\x.b<=4/\x.b<=x.c/\x.c<=64)/\opAt l x.n=21
 size:x.op=7->0<=x.n/\x.n<=16
 jump:x.op=11\/x.op=12->(i:Int)<x.n\/opAt l x.n=21
def regB (n:Int) (u:Bool):Bool:=decide (n=0) || (u && (decide (0<n) && decide (n<16)))
theorem reg_of {n:Int} {u:Bool} (h:regB n u=true):0<=n/\n<16:=by
 unfold regB at h;simp at h;omega
def ROp (l:List In) (pc:Int) (e:Ending):Prop:=∃ q:Int,e=.returned (i_ q)/\Hid (opAt l pc=q)
theorem op_any (A:OA) (n c:Nat) (v s pc:Int) (l:List In) (w:World) (hs:Sl w w 5 In.cells A n l) (hn:n<=9000000000000) :
  Calls prog 128 #[.agg #[.slice A n c,i_ v,i_ s],i_ pc] w fun e w'=>ROp l pc e/\Below w w w':=by
 have HL:=q_ hs.len;by_cases h0:pc<0
 ·have H:=h_ (opAt l pc=-1) (by unfold opAt;rw [if_neg o_]);go_enter func128,ntmps128;go_wp2;go_ret;exact ⟨⟨_,rfl,q_ H.o⟩,(bel (b_))⟩
 obtain ⟨k,rfl⟩:∃ k:Nat,pc=k:=⟨pc.toNat,o_⟩;have HK:=q_ (opAt_nat l k);by_cases h1:k<n
 ·obtain ⟨ab,ao,rfl,A1,A0⟩:=hs.at_ o_;obtain ⟨x,hx⟩:∃ x,l[k]?=some x:=⟨_,ge_ (by rw [HL.o];exact h1)⟩;have HX:=q_ hx;have c0:w.cell? ⟨ab,ao+k*5,none⟩=some (i_ x.op):=A0 k x hx 0 _ rfl;have h2:¬(n:Int)<=(k:Int):=by omega
  have h3:(k:Int)<(n:Int):=by omega
  clear A0 hx h0;exact tq_
 have h2:(n:Int)<=(k:Int):=by omega
 have HX:=h_ (l[k]?=none) (List.getElem?_eq_none yp_);exact tq_
def RReg (n:Int) (e:Ending):Prop:=∃ b:Bool,e=.returned (.bool b)/\Hid (b=true->0<=n/\n<16)
theorem bc_ (n:Int) (u:Bool) (w:World):Calls prog 168 #[i_ n,.bool u] w fun e w'=>RReg n e/\Below w w w':=by
 go_enter func168,ntmps168;by_cases h:n=0
 ·have H:=h_ (regB n u=true) (by unfold regB;simp [h]);exact v9_
 have A0:(n == 0)=false:=by simp [h]
 cases u with
 | false =>
  have H:=h_ (regB n false=false) (by unfold regB;simp [h]);exact v9_
 | true =>
  by_cases h1:0<n
  ·by_cases h2:n<16
   ·have H:=h_ (regB n true=true) (by unfold regB;simp [h1,h2]);exact v9_
   have H:=h_ (regB n true=false) (by unfold regB;simp [h2,h]);exact v9_
  have H:=h_ (regB n true=false) (by unfold regB;simp [h1,h]);exact v9_
def shTab:List (Bool × Bool × Bool × Int):=[(false,false,false,0),(true,false,false,1),(true,false,false,0),(true,true,false,0),(true,true,true,2),(true,true,false,3),(true,true,false,3),(true,false,false,4),(true,false,false,5),(true,false,false,5),(true,false,false,5),(false,false,false,6),(true,false,false,6),(false,false,false,7),(true,false,false,0),(true,false,false,0),(true,false,false,0),(false,false,false,8),(true,false,false,0),(true,false,false,0),(false,false,false,5),(false,false,false,9)]
def shCells (s:Bool × Bool × Bool × Int):VL:=[.bool s.1,.bool s.2.1,.bool s.2.2.1,i_ s.2.2.2]
theorem shapes_any (w:World):Calls prog 120 #[] w fun e w'=>(∃ g,e=.returned (.slice (some (a_ g)) 22 22)/\Hid (Sl w' w' 4 shCells (some (a_ g)) 22 shTab))/\Below w w w':=by
 go_enter func120,ntmps120;go_wp2;go_ret;refine ⟨⟨_,rfl,q_ ⟨rfl,fun _=>⟨_,_,rfl,zk_,fun i x hx j u hu=>?_⟩⟩⟩,(bel (b_))⟩;have h:=flat_get (sz:=4) (cells:=shCells) (fun _=>rfl) shTab i x hx j u hu;rw [ar_ _ _ _ _ _ t_,Nat.zero_add,<-h,List.getElem?_toArray];rfl
def shAt (k:Nat):Bool × Bool × Bool × Int:=(shTab[k]?).getD (false,false,false,0)
theorem sh_at {k:Nat} (h:k<22):shTab[k]?=some (shAt k):=by
 unfold shAt;rw [ge_ (show k<shTab.length from h)];rfl
theorem sh_n {k:Nat} (h:k<22):((shAt k).2.2.2=4/\k=7)\/((shAt k).2.2.2=6/\(k=11\/k=12))\/((shAt k).2.2.2=7/\k=13)\/((shAt k).2.2.2≠4/\(shAt k).2.2.2≠6/\(shAt k).2.2.2≠7/\k≠7/\k≠11/\k≠12/\k≠13):=by
 revert k;decide
theorem sh_v {k:Nat} (h:k<22):(k=10->(shAt k).2.2.2=5)/\((shAt k).2.2.2=0\/(shAt k).2.2.2=1\/(shAt k).2.2.2=2\/(shAt k).2.2.2=3\/(shAt k).2.2.2=4\/(shAt k).2.2.2=5\/(shAt k).2.2.2=6\/(shAt k).2.2.2=7\/(shAt k).2.2.2=8\/(shAt k).2.2.2=9):=by
 revert k;decide
def RFits (l:List In) (i:Nat) (x:In) (e:Ending):Prop:=∃ b,e=.returned (.bool b)/\(b=true->OkI l i x)
theorem rfits_no (l:List In) (i:Nat) (x:In):RFits l i x (.returned (.bool false)):=⟨false,rfl,fun h=>by cases h⟩
theorem mkOk {l:List In} {i k:Nat} {x:In} (ho:x.op=k) (hk:k<22) (ha:0<=x.a/\x.a<16) (hb:k≠13->k≠10->0<=x.b/\x.b<16) (hc:k≠13->0<=x.c/\x.c<16) (hp:k=13->0<=x.b/\x.b<=4/\x.b<=x.c/\x.c<=64)
  (hm:k=13->opAt l x.n=21) (hz:k=7->0<=x.n/\x.n<=16) (hj:k=11\/k=12->(i:Int)<x.n\/opAt l x.n=21):OkI l i x :=
 ⟨o_,ha,fun h1 h2=>hb o_ o_,fun h1=>hc o_,fun h=>⟨hp o_,hm o_⟩,fun h=>hz o_,fun h=>hj o_⟩
end Go.Proofs.YtfolidlmgfhkiaaGreat
