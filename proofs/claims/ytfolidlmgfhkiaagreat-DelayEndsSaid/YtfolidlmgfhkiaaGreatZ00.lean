/- Lemmas: each says what a function of the program leaves, under the conditions that it states. -/
import Derived.Test.YtfolidlmgfhkiaaGreatRows
import Derived.WalkKit
import Derived.WalkSpells
import Derived.WalkLawsBesides
import Derived.Deep.QuietTactic
import Derived.BigQuiet
import Derived.Deep.Draws
import Derived.Lib.Hide
import Derived.StillTailTactics
import Derived.Deep.AppendLies
import Derived.Deep.RegionLaw
import Derived.Laws.CopyOwn
import Derived.Lib.Overlaps
import Derived.Lib.AppendZeros
import Derived.Lib.SliceRun
import Derived.Deep.RegionLawGrows
set_option linter.unusedVariables false
set_option linter.unusedSimpArgs false
set_option maxRecDepth 100000
set_option maxHeartbeats 4000000
namespace Go.Proofs.YtfolidlmgfhkiaaGreat
open Go.RowKit
def Hid (p:Prop):Prop:=p
theorem Hid.o {p:Prop} (h:Hid p):p:=h
theorem Hid.out {p:Prop} (h:Hid p):p:=h
abbrev OA:=Option Addr
abbrev VL:=List Value
abbrev NP:=Nat->Prop
theorem ex_ {α:Type} (x:α):∃ v,v=x:=⟨x,rfl⟩
theorem ge_ {α:Type} {l:List α} {i:Nat} (h:i<l.length):l[i]?=some l[i]:=List.getElem?_eq_getElem h
theorem gs_ {α:Type} {l:List α} {i j:Nat} {a:α}:(l.set i a)[j]?=if i=j then if i<l.length then some a else none else l[j]?:=List.getElem?_set
theorem lt_ {a b c:Nat} (h:a<b) (k:b<=c):a<c:=Nat.lt_of_lt_of_le h k
theorem below_drewN {B:Nat} {a w:World} (h:Below B a w) (m:Nat):Below B a (w.drewN m):=⟨h.os,h.tape,h.output,h.size,h.block⟩
theorem am_ {B:Nat} {w w':World} {row:Option Nat} (hg:w.grownBy w' row) (hB:B≤w.heap.size) (hr:∀ k,row=some k→B≤k):Below B w w' :=
 (Below.refl B w).grown hg hB hr
structure Sl {α:Type} (w:World) (B:Nat) (sz:Nat) (cells:α→VL) (A:OA) (n:Nat) (l:List α):Prop where
 len:l.length=n
 at_:0<n→∃ ab ao,A=some ⟨ab,ao,none⟩∧ab<B∧∀ i x,l[i]?=some x→∀ j u,(cells x)[j]?=some u→w.cell? ⟨ab,ao+(i*sz+j),none⟩=some u
section
variable {α:Type} {w w':World} {B B' sz:Nat} {cells:α→VL} {A:OA} {n:Nat} {l:List α}
theorem Sl.nil:Sl w B sz cells A 0 []:=⟨rfl,fun h=>absurd h (by omega)⟩
theorem Sl.below (h:Sl w B sz cells A n l) (hb:Below B w w'):Sl w' B sz cells A n l :=
 ⟨h.len,fun hn=>by
  obtain ⟨ab,ao,e,A0,hc⟩:=h.at_ hn
  exact ⟨ab,ao,e,A0,fun i x hx j u hu=>(hb.cell (p:=⟨ab,_,none⟩) A0).trans (hc i x hx j u hu)⟩⟩
theorem Sl.mono (h:Sl w B sz cells A n l) (hB:B≤B'):Sl w B' sz cells A n l :=
 ⟨h.len,fun hn=>by
  obtain ⟨ab,ao,e,A0,hc⟩:=h.at_ hn
  exact ⟨ab,ao,e,by omega,hc⟩⟩
theorem Sl.set (h:Sl w B sz cells A n l) {p:Addr} (hp:∀ ad,A=some ad→ad.block≠p.block) (u:Value):Sl (w.setCell p u) B sz cells A n l :=
 ⟨h.len,fun hn=>by
  obtain ⟨ab,ao,e,A0,hc⟩:=h.at_ hn
  refine ⟨ab,ao,e,A0,fun i x hx j u hu=>(World.cell?_setCell_other w p _ _ (fun e2=>hp _ e (by rw [e2]))).trans (hc i x hx j u hu)⟩⟩
theorem Sl.up (h:Sl w w.heap.size sz cells A n l) (hb:Below w.heap.size w w'):Sl w' w'.heap.size sz cells A n l:=(h.below hb).mono hb.size
theorem flat_get (hsz:∀ x,(cells x).length=sz):∀ (l:List α) (i:Nat) (x:α),l[i]?=some x→∀ j u,(cells x)[j]?=some u→(l.flatMap cells)[i*sz+j]?=some u
 | [],i,x,h,_,_,_=>by simp at h
 | y :: l,0,x,h,j,u,hu=>by
  simp at h;subst h
  have hj:j<(cells y).length:=(List.getElem?_eq_some_iff.1 hu).1
  rw [Nat.zero_mul,Nat.zero_add,List.flatMap_cons,List.getElem?_append_left hj];exact hu
 | y :: l,i+1,x,h,j,u,hu=>by
  have ih:=flat_get hsz l i x (by simpa using h) j u hu
  have e:(i+1)*sz+j=(cells y).length+(i*sz+j):=by rw [hsz,Nat.add_mul];omega
  rw [e,List.flatMap_cons,List.getElem?_append_right (by omega)]
  simpa using ih
theorem flat_len (hsz:∀ x,(cells x).length=sz):∀ (l:List α),(l.flatMap cells).length=l.length*sz
 | []=>by simp
 | y :: l=>by rw [List.flatMap_cons,List.length_append,flat_len hsz l,hsz,List.length_cons,Nat.add_mul];omega
theorem flat_take (hsz:∀ x,(cells x).length=sz):∀ (l:List α) (k:Nat),(l.flatMap cells).take (k*sz)=(l.take k).flatMap cells
 | [],k=>by simp
 | y :: l,0=>by simp
 | y :: l,k+1=>by
  have e:(k+1)*sz=(cells y).length+k*sz:=by rw [hsz,Nat.add_mul];omega
  rw [List.flatMap_cons,e,List.take_length_add_append,flat_take hsz l k,List.take_succ_cons,List.flatMap_cons]
theorem flat_drop (hsz:∀ x,(cells x).length=sz):∀ (l:List α) (k:Nat),(l.flatMap cells).drop (k*sz)=(l.drop k).flatMap cells
 | [],k=>by simp
 | y :: l,0=>by simp
 | y :: l,k+1=>by
  have e:(k+1)*sz=(cells y).length+k*sz:=by rw [hsz,Nat.add_mul];omega
  rw [List.flatMap_cons,e,List.drop_length_add_append,flat_drop hsz l k,List.drop_succ_cons]
theorem Sl.ee_ {base:Nat} {e:TypeId} {c:Nat} (hsz:∀ x,(cells x).length=sz) (hl:l.length=n) (h:w.ownsRow base e sz (.slice A n c) n (l.flatMap cells)):Sl w w.heap.size sz cells A n l:=by
 refine ⟨hl,fun hn=>?_⟩
 obtain ⟨g,cap,hv,_,A0⟩:=h.form hn
 have hA:A=some ⟨g,0,none⟩:=by injection hv
 subst hA
 refine ⟨g,0,rfl,A0,fun i x hx j u hu=>?_⟩
 have:=h.cells (g:=g) rfl (i*sz+j) u (flat_get hsz l i x hx j u hu)
 unfold Addr.add at this
 split at this
 ·rename_i h0;rw [h0];exact this
 ·simpa using this
end
/- copy: elements of whatever size, into a row that is known whole. -/
theorem run_copy_N {P:Program} (w:World) (dT sT ty elem:TypeId) (sz:Nat) (g o dLen dCap:Nat) (a:Addr) (sLen sCap:Nat) (cur:Array Value) (t:TypeId) (cs:VL)
  (hu:P.underlying dT=some (.slice elem)) (hs:(P.info? elem).map (·.size)=some sz)
  (hg:w.heap[g]?=some (.cells cur t (0,0))) (hn:cs.length=Nat.min sLen dLen*sz)
  (hsrc:∀ j v,cs[j]?=some v→w.cell? (a.add j)=some v) (hfit:o+cs.length≤cur.size) (h1:∀ v ∈ cs,v.oneCell'=true) :
  (Builtin.copy_ #[dT,sT] ty #[.slice (some ⟨g,o,none⟩) dLen dCap,.slice (some a) sLen sCap]).run P w =
   .ok (goInt (Nat.min sLen dLen)) (w.setRow g (cur.toList.take o ++ cs ++ cur.toList.drop (o+cs.length)).toArray):=by
 have hl:=run_loadCells_list (P:=P) w a cs hsrc
 have A0:=run_storeCells_at P g o t cs 0 cur w hg (by simpa using hfit) h1
 cases hq:P.info? elem with
 | none=>simp [hq] at hs
 | some i =>
  have hi:i.size=sz:=by simpa [hq] using hs
  simp [Builtin.copy_,run_underlying hu,Builtin.lenOf,Builtin.firstCells,sizeOf,typeInfo,hq,hi,←hn,hl,A0]
theorem run_copy_N' {P:Program} (w:World) (dT sT ty elem:TypeId) (sz:Nat) (g o dLen dCap:Nat) (a:Addr) (sLen sCap:Nat) (cur:VL) (t:TypeId) (cs:VL)
  (hu:P.underlying dT=some (.slice elem)) (hs:(P.info? elem).map (·.size)=some sz)
  (hg:w.heap[g]?=some (.cells cur.toArray t (0,0))) (hn:cs.length=Nat.min sLen dLen*sz)
  (hsrc:∀ j v,cs[j]?=some v→w.cell? (a.add j)=some v) (hfit:o+cs.length≤cur.length) (h1:∀ v ∈ cs,v.oneCell'=true) :
  ∃ w',(Builtin.copy_ #[dT,sT] ty #[.slice (some ⟨g,o,none⟩) dLen dCap,.slice (some a) sLen sCap]).run P w=.ok (goInt (Nat.min sLen dLen)) w' ∧
   Hid (w'.heap[g]?=some (.cells (splice cur o cs).toArray t (0,0)))∧w.grownBy w' (some g):=by
 refine ⟨_,run_copy_N w dT sT ty elem sz g o dLen dCap a sLen sCap cur.toArray t cs hu hs hg hn hsrc (by simpa using hfit) h1,?_,⟨rfl,rfl,rfl,by simp [World.setRow],fun k hk hne=>setRow_other w g k _ (fun e=>hne (by rw [e]))⟩⟩
 show _=_
 simpa [splice] using setRow_heap w g _ _ t _ hg
theorem wpList_copy_N {P:Program} {w:World} {ops:Array Oper} {rest:List Oper} {o:Oper} {a:Act} {Q:Exit→Act→World→Prop} (hgd:o.guard=none) (d s:Operand) (dT sT:TypeId)
  (ho:o.op=.call { callee:=.builtin .copy,args:=#[d,s],argTypes:=#[dT,sT] }) (elem:TypeId) (sz:Nat) (hu:P.underlying dT=some (.slice elem)) (hsz:(P.info? elem).map (·.size)=some sz)
  (g off dLen dCap:Nat) (ad:Addr) (sLen sCap:Nat) (hd:a.eval d=.slice (some ⟨g,off,none⟩) dLen dCap) (hs:a.eval s=.slice (some ad) sLen sCap)
  (cur:VL) (t:TypeId) (hg:w.heap[g]?=some (.cells cur.toArray t (0,0))) (cs:VL) (hn:cs.length=Nat.min sLen dLen*sz)
  (hsrc:∀ j v,cs[j]?=some v→w.cell? (ad.add j)=some v) (hfit:off+cs.length≤cur.length) (h1:∀ v ∈ cs,v.oneCell'=true)
  (h:∀ w',Hid (w'.heap[g]?=some (.cells (splice cur off cs).toArray t (0,0)))→w.grownBy w' (some g)→wpList P ops Q rest (a.put o.dst (goInt (Nat.min sLen dLen))) w') :
  wpList P ops Q (o :: rest) a w:=by
 refine wpList_plain hgd fun K hK=>?_
 obtain ⟨w',A0,h2,h3⟩:=run_copy_N' (P:=P) w dT sT o.type elem sz g off dLen dCap ad sLen sCap cur t cs hu hsz hg hn hsrc hfit h1
 unfold Oper.wp
 simp [execOp,ho,resolve,invoke,builtin,hd,hs,A0,Result.andThen]
 exact hK _ _ (h w' h2 h3)
theorem step_copy_N {P:Program} {ops:Array Oper} {o:Oper} {a:Act} {w:World} {K:Act→World→Prop} {Q:Exit→Act→World→Prop} {E:Prop} (hgd:o.guard=none) (d s:Operand) (dT sT:TypeId)
  (ho:o.op=.call { callee:=.builtin .copy,args:=#[d,s],argTypes:=#[dT,sT] }) (elem:TypeId) (sz:Nat) (hu:P.underlying dT=some (.slice elem)) (hsz:(P.info? elem).map (·.size)=some sz)
  (g off dLen dCap:Nat) (ad:Addr) (sLen sCap:Nat) (hd:a.eval d=.slice (some ⟨g,off,none⟩) dLen dCap) (hs:a.eval s=.slice (some ad) sLen sCap)
  (cur:VL) (t:TypeId) (hg:w.heap[g]?=some (.cells cur.toArray t (0,0))) (cs:VL) (hn:cs.length=Nat.min sLen dLen*sz)
  (hsrc:∀ j v,cs[j]?=some v→w.cell? (ad.add j)=some v) (hfit:off+cs.length≤cur.length) (h1:∀ v ∈ cs,v.oneCell'=true)
  (h:∀ w',Hid (w'.heap[g]?=some (.cells (splice cur off cs).toArray t (0,0)))→w.grownBy w' (some g)→K (a.put o.dst (goInt (Nat.min sLen dLen))) w') :
  if Region.wanted o (yielded ops a.tmps)=true then Oper.wp P o a w K Q else E:=by
 have hw:Region.wanted o (yielded ops a.tmps)=true:=by simp [Region.wanted,hgd]
 rw [if_pos hw]
 obtain ⟨w',A0,h2,h3⟩:=run_copy_N' (P:=P) w dT sT o.type elem sz g off dLen dCap ad sLen sCap cur t cs hu hsz hg hn hsrc hfit h1
 unfold Oper.wp
 simp [execOp,ho,resolve,invoke,builtin,hd,hs,A0,Result.andThen]
 exact h w' h2 h3
theorem splice_shift {α:Type} (cur xs cs:List α) (a s n:Nat) (hx:cur.take n=xs) (hcs:cs.length=s) (han:a≤n) (hl:n+s≤cur.length) :
  (splice (splice cur (a+s) (xs.drop a)) a cs).take (n+s)=xs.take a ++ cs ++ xs.drop a:=by
 have A0:xs.length=n:=by rw [←hx,List.length_take];omega
 have h1:(splice cur (a+s) (xs.drop a)).take a=xs.take a:=by
  unfold splice
  rw [List.take_append_of_le_length (by rw [List.length_take];omega),List.take_take,Nat.min_eq_left (by omega),←hx,List.take_take,Nat.min_eq_left han]
 have h2:(splice cur (a+s) (xs.drop a)).drop (a+s)=xs.drop a ++ cur.drop (a+s+(xs.drop a).length):=by
  unfold splice
  rw [List.drop_append,List.drop_eq_nil_of_le (by rw [List.length_take];omega),List.nil_append,List.length_take,Nat.min_eq_left (by omega),Nat.sub_self,List.drop_zero]
 have h3:splice (splice cur (a+s) (xs.drop a)) a cs=(xs.take a ++ cs ++ xs.drop a) ++ cur.drop (a+s+(xs.drop a).length):=by
  conv=>lhs;unfold splice
  rw [hcs,show splice cur (a+s) (xs.drop a)=splice cur (a+s) (xs.drop a) from rfl] at *
  rw [show (List.take (a+s) cur ++ (xs.drop a ++ cur.drop (a+s+(xs.drop a).length)))=splice cur (a+s) (xs.drop a) from rfl,h1,h2]
  simp
 rw [h3,List.take_append_of_le_length (by simp only [List.length_append,List.length_take,List.length_drop,hcs,A0];omega),List.take_of_length_le (by simp only [List.length_append,List.length_take,List.length_drop,hcs,A0];omega)]
theorem splice_grow {α:Type} (row xs cs:List α) (a s n:Nat) (hr:row.take a=xs.take a) (hcs:cs.length=s) (hxl:xs.length=n) (han:a≤n) (_hl:n+s≤row.length) :
  (splice (splice row a cs) (a+s) (xs.drop a)).take (n+s)=xs.take a ++ cs ++ xs.drop a:=by
 have h1:(splice row a cs).take (a+s)=xs.take a ++ cs:=by
  unfold splice
  rw [hr,←List.append_assoc,List.take_append_of_le_length (by simp only [List.length_append,List.length_take,hcs,hxl];omega),List.take_of_length_le (by simp only [List.length_append,List.length_take,hcs,hxl];omega)]
 have h2:splice (splice row a cs) (a+s) (xs.drop a)=(splice row a cs).take (a+s) ++ (xs.drop a ++ (splice row a cs).drop (a+s+(xs.drop a).length)):=rfl
 rw [h2,h1,←List.append_assoc,List.take_append_of_le_length (by simp only [List.length_append,List.length_take,List.length_drop,hcs,hxl];omega),List.take_of_length_le (by simp only [List.length_append,List.length_take,List.length_drop,hcs,hxl];omega)]
theorem aj_ (w:World) (c:Array Value) (t:TypeId) (b i:Nat) (h:b=w.heap.size):(w.alloc (.cells c t)).cell? ⟨b,i,none⟩=c[i]?:=by subst h;simp
theorem ak_ (w:World) (o:Obj) (b i:Nat) (h:b<w.heap.size):(w.alloc o).cell? ⟨b,i,none⟩=w.cell? ⟨b,i,none⟩:=World.cell?_alloc_lt w o _ h
theorem bx_ (w:World) (c:Array Value) (t:TypeId) (b i:Nat) (h:b=w.heap.size):(w.alloc (.cells c t)).frozen? ⟨b,i,none⟩=false:=by subst h;simp
theorem ei_ (w:World) (o:Obj) (b i:Nat) (h:b<w.heap.size):(w.alloc o).frozen? ⟨b,i,none⟩=w.frozen? ⟨b,i,none⟩:=World.frozen?_alloc_old w o _ (Nat.ne_of_lt h)
theorem ce_ {w w':World} (h:Below w.heap.size w w') (row:Option Nat):w.grownBy w' row:=⟨h.os,h.tape,h.output,h.size,fun k hk _=>h.block k hk⟩
theorem own_below {w w':World} {base:Nat} {e:TypeId} {size:Nat} {v:Value} {n:Nat} {xs:VL} (h:w.ownsRow base e size v n xs) (hb:Below w.heap.size w w'):w'.ownsRow base e size v n xs:=h.kept (ce_ hb none) (by cases v.ownBlock <;> simp)
theorem own_form {w:World} {base:Nat} {e:TypeId} {size:Nat} {v:Value} {n:Nat} {xs:VL} (h:w.ownsRow base e size v n xs) (hn:0<n):∃ A' c',v=.slice A' n c':=by
 obtain ⟨g,cap,rfl,_⟩:=h.form hn
 exact ⟨_,_,rfl⟩
theorem bw_ {w:World} {base:Nat} {e:TypeId} {size:Nat} {v:Value} {n:Nat} {xs:VL} (h:w.ownsRow base e size v n xs) {a:Addr} (u:Value) (hne:v.ownBlock≠some a.block):(w.setCell a u).ownsRow base e size v n xs :=
 h.kept (row:=some a.block) ⟨rfl,rfl,rfl,by simp,fun k hk A0=>Below.heap_setCell w a u k (fun e=>A0 (by rw [e]))⟩ (.inr hne)
theorem be_ (w:World) (a b:Addr) (u:Value) (h:a≠b):(w.setCell a u).cell? b=w.cell? b:=World.cell?_setCell_other w a b u h
/- append, whatever the source: nil, empty or not. -/
theorem ci_ {P:Program} (w:World) (t ty e:TypeId) (i:TypeInfo) (ht:P.underlying t=some (.slice e)) (hi:P.info? e=some i)
  (ao:OA) (n cap:Nat) (hnc:n≤cap) (xo:OA) (c:Nat) :
  (Builtin.append_ #[t,t] ty #[.slice ao n cap,.slice xo 0 c]).run P w=.ok (.slice ao n cap) w:=by
 have hl:∀ (x:Addr),(loadCells x 0).run P w=.ok #[] w:=fun x=>by simpa using run_loadCells_list (P:=P) w x [] (by simp)
 cases ao <;> cases xo <;> simp [Builtin.append_,run_underlying ht,sizeOf,typeInfo,hi,Builtin.lenOf,Builtin.firstCells,hnc,storeCells,hl]
theorem da_ {P:Program} (w:World) (base:Nat) (t ty e:TypeId) (i:TypeInfo) (z:Value) (size bytes:Nat) (ht:P.underlying t=some (.slice e)) (hi:P.info? e=some i) (hz:i.zero=some z)
  (hsize:i.size=size) (hby:i.bytes=bytes) (hzs:z.cells.size=size) (hsz:0<size)
  (v:Value) (n:Nat) (xs:VL) (hown:w.ownsRow base e size v n xs)
  (xo:OA) (m c:Nat) (news:VL) (hxo:xo=none→m=0) (hl:news.length=m*size) (hnews:∀ ad,xo=some ad→∀ (j:Nat) (u:Value),news[j]?=some u→w.cell? (ad.add j)=some u) (h1:∀ u ∈ news,u.oneCell'=true)
  (h63:n+m≤maxLen) (hbytes:(n+m)*bytes≤140737488355328) (hbase:base≤w.heap.size) :
  ∃ A' c' w',(Builtin.append_ #[t,t] ty #[v,.slice xo m c]).run P w=.ok (.slice A' (n+m) c') w'∧w'.ownsRow base e size (.slice A' (n+m) c') (n+m) (xs ++ news)∧w.grownBy w' v.ownBlock ∧
   (∀ g,(Value.slice A' (n+m) c').ownBlock=some g→v.ownBlock=some g∨g=w.heap.size):=by
 rcases Nat.eq_zero_or_pos m with rfl | hm
 ·obtain rfl:news=[]:=List.eq_nil_of_length_eq_zero (by simpa using hl)
  rw [List.append_nil,Nat.add_zero]
  rcases hown.2 with ⟨rfl,rfl⟩ | ⟨g,cap,cur,rfl,hbg,hg,hnc,hcm,hcs,htake⟩
  ·exact ⟨none,0,w,ci_ w t ty e i ht hi none 0 0 (Nat.le_refl _) xo c,hown,World.grownBy.refl _ _,fun g hg=>.inl hg⟩
  ·exact ⟨_,_,w,ci_ w t ty e i ht hi _ n cap hnc xo c,hown,World.grownBy.refl _ _,fun g hg=>.inl hg⟩
 ·cases xo with
  | none=>exact absurd (hxo rfl) (by omega)
  | some ad =>
   obtain ⟨g,cap,w',hr,ho,hg,A0,_⟩:=run_append_lies (P:=P) (w:=w) t ty base e i z size bytes ht hi hz hsize hby hzs hsz v n xs hown ad m c news hl (hnews ad rfl) h1 hm h63 hbytes hbase _ rfl
   exact ⟨_,_,w',hr,ho,hg,fun k hk=>by injection hk with hk;subst hk;exact A0⟩
theorem cj_ {P:Program} {w:World} {ops:Array Oper} {rest:List Oper} {o:Oper} {a:Act} {Q:Exit→Act→World→Prop} (hgd:o.guard=none) (s x:Operand) (t:TypeId)
  (ho:o.op=.call { callee:=.builtin .append,args:=#[s,x],argTypes:=#[t,t] })
  (base:Nat) (e:TypeId) (i:TypeInfo) (z:Value) (size bytes:Nat) (ht:P.underlying t=some (.slice e)) (hi:P.info? e=some i) (hz:i.zero=some z)
  (hsize:i.size=size) (hby:i.bytes=bytes) (hzs:z.cells.size=size) (hsz:0<size)
  (v:Value) (n:Nat) (xs:VL) (hs:a.eval s=v) (hown:w.ownsRow base e size v n xs)
  (xo:OA) (m c:Nat) (news:VL) (hx:a.eval x=.slice xo m c) (hxo:xo=none→m=0) (hl:news.length=m*size) (hnews:∀ ad,xo=some ad→∀ (j:Nat) (u:Value),news[j]?=some u→w.cell? (ad.add j)=some u) (h1:∀ u ∈ news,u.oneCell'=true)
  (h63:n+m≤maxLen) (hbytes:(n+m)*bytes≤140737488355328) (hbase:base≤w.heap.size)
  (h:∀ A' c' w',w'.ownsRow base e size (.slice A' (n+m) c') (n+m) (xs ++ news)→w.grownBy w' v.ownBlock→(∀ g,(Value.slice A' (n+m) c').ownBlock=some g→v.ownBlock=some g∨g=w.heap.size)→wpList P ops Q rest (a.put o.dst (.slice A' (n+m) c')) w'):wpList P ops Q (o :: rest) a w:=by
 obtain ⟨A',c',w',hr,h1,h2,h3⟩:=da_ (P:=P) w base t o.type e i z size bytes ht hi hz hsize hby hzs hsz v n xs hown xo m c news hxo hl hnews h1 h63 hbytes hbase
 exact Lib.wpList_append_run w hgd s x t t ho _ _ hs hx _ _ hr (h A' c' w' h1 h2 h3)
theorem dt_ {P:Program} {ops:Array Oper} {o:Oper} {a:Act} {w:World} {K:Act→World→Prop} {Q:Exit→Act→World→Prop} {E:Prop} (hgd:o.guard=none) (s x:Operand) (t:TypeId)
  (ho:o.op=.call { callee:=.builtin .append,args:=#[s,x],argTypes:=#[t,t] })
  (base:Nat) (e:TypeId) (i:TypeInfo) (z:Value) (size bytes:Nat) (ht:P.underlying t=some (.slice e)) (hi:P.info? e=some i) (hz:i.zero=some z)
  (hsize:i.size=size) (hby:i.bytes=bytes) (hzs:z.cells.size=size) (hsz:0<size)
  (v:Value) (n:Nat) (xs:VL) (hs:a.eval s=v) (hown:w.ownsRow base e size v n xs)
  (xo:OA) (m c:Nat) (news:VL) (hx:a.eval x=.slice xo m c) (hxo:xo=none→m=0) (hl:news.length=m*size) (hnews:∀ ad,xo=some ad→∀ (j:Nat) (u:Value),news[j]?=some u→w.cell? (ad.add j)=some u) (h1:∀ u ∈ news,u.oneCell'=true)
  (h63:n+m≤maxLen) (hbytes:(n+m)*bytes≤140737488355328) (hbase:base≤w.heap.size)
  (h:∀ A' c' w',w'.ownsRow base e size (.slice A' (n+m) c') (n+m) (xs ++ news)→w.grownBy w' v.ownBlock→(∀ g,(Value.slice A' (n+m) c').ownBlock=some g→v.ownBlock=some g∨g=w.heap.size)→K (a.put o.dst (.slice A' (n+m) c')) w') :
  if Region.wanted o (yielded ops a.tmps)=true then Oper.wp P o a w K Q else E:=by
 have hw:Region.wanted o (yielded ops a.tmps)=true:=by simp [Region.wanted,hgd]
 rw [if_pos hw]
 obtain ⟨A',c',w',hr,h1,h2,h3⟩:=da_ (P:=P) w base t o.type e i z size bytes ht hi hz hsize hby hzs hsz v n xs hown xo m c news hxo hl hnews h1 h63 hbytes hbase
 exact Lib.wp_append_run w s x t t ho _ _ hs hx _ _ hr (h A' c' w' h1 h2 h3)
theorem step_append_zero {P:Program} {ops:Array Oper} {o:Oper} {a:Act} {w:World} {K:Act→World→Prop} {Q:Exit→Act→World→Prop} {E:Prop} (hgd:o.guard=none) (s x:Operand) (t:TypeId)
  (ho:o.op=.call { callee:=.builtin .append,args:=#[s,x],argTypes:=#[t,t] }) (e:TypeId) (i:TypeInfo) (ht:P.underlying t=some (.slice e)) (hi:P.info? e=some i)
  (ao:OA) (n cap:Nat) (hnc:n≤cap) (hs:a.eval s=.slice ao n cap) (xo:OA) (c:Nat) (hx:a.eval x=.slice xo 0 c) (hK:K (a.put o.dst (.slice ao n cap)) w) :
  if Region.wanted o (yielded ops a.tmps)=true then Oper.wp P o a w K Q else E:=by
 have hw:Region.wanted o (yielded ops a.tmps)=true:=by simp [Region.wanted,hgd]
 rw [if_pos hw]
 exact Lib.wp_append_run w s x t t ho _ _ hs hx _ _ (ci_ w t o.type e i ht hi ao n cap hnc xo c) hK
theorem own_src {w:World} {base:Nat} {e:TypeId} {size:Nat} {A:OA} {n c:Nat} {xs:VL} (h:w.ownsRow base e size (.slice A n c) n xs) :
  (A=none→n=0)∧∀ ad,A=some ad→∀ (j:Nat) (u:Value),xs[j]?=some u→w.cell? (ad.add j)=some u:=by
 refine ⟨fun hA=>?_,fun ad hA j u hu=>?_⟩
 ·subst hA
  rcases h.2 with ⟨h',h0⟩ | ⟨g,cap,cur,h',_⟩
  ·exact h0
  ·cases h'
 ·subst hA
  rcases h.2 with ⟨h',_⟩ | ⟨g,cap,cur,h',_⟩
  ·cases h'
  ·injection h' with h1 _ _
   injection h1 with h1
   subst h1
   exact h.cells (g:=g) rfl j u hu
theorem gcell {W w1:World} {row:Option Nat} (hg:W.grownBy w1 row):(∀ b o,b<W.heap.size→some b≠row→w1.cell? ⟨b,o,none⟩=W.cell? ⟨b,o,none⟩)∧(∀ b o,b<W.heap.size→some b≠row→w1.frozen? ⟨b,o,none⟩=W.frozen? ⟨b,o,none⟩) :=
 ⟨fun b _o h hne=>World.cell?_of_block (w:=W) (hg.block b h hne),fun b _o h hne=>World.frozen?_of_block (w:=W) (hg.block b h hne)⟩
theorem an_ {w:World} {base:Nat} {e:TypeId} {size:Nat} {A:OA} {n c:Nat} {xs:VL} (h:w.ownsRow base e size (.slice A n c) n xs) {k:Nat} (hk:(Value.slice A n c).ownBlock=some k):base≤k∧k<w.heap.size:=h.lt k hk
theorem sl_at {α:Type} {w:World} {B sz n g ao:Nat} {cells:α→VL} {l:List α} (h:Sl w B sz cells (some ⟨g,ao,none⟩) n l) {i:Nat} {x:α} (hx:l[i]?=some x) {j:Nat} {u:Value} (hu:(cells x)[j]?=some u):w.cell? ⟨g,ao+(i*sz+j),none⟩=some u:=by
 have hn:0<n:=by have:=(List.getElem?_eq_some_iff.1 hx).1;rw [h.len] at this;omega
 obtain ⟨ab,A0,e,_,hc⟩:=h.at_ hn
 injection e with e
 injection e with e1 e2
 subst e1 e2
 exact hc i x hx j u hu
theorem slot_ne {sz i k j j':Nat} (hj:j<sz) (hj':j'<sz) (h:i≠k∨j≠j'):i*sz+j≠k*sz+j':=by
 intro e
 have h1:(i*sz+j) / sz=i:=by rw [Nat.mul_comm,Nat.mul_add_div (by omega),Nat.div_eq_of_lt hj];omega
 have h2:(k*sz+j') / sz=k:=by rw [Nat.mul_comm,Nat.mul_add_div (by omega),Nat.div_eq_of_lt hj'];omega
 rw [e,h2] at h1
 subst h1
 rcases h with h | h
 ·exact h rfl
 ·omega
theorem Sl.lt {α:Type} {w:World} {B sz n g ao:Nat} {cells:α→VL} {l:List α} (h:Sl w B sz cells (some ⟨g,ao,none⟩) n l) (hn:0<n):g<B:=by
 obtain ⟨ab,A1,e,A0,_⟩:=h.at_ hn
 injection e with e
 injection e with e1 e2
 subst e1
 exact A0
theorem dr_ {w:World} {base:Nat} {e:TypeId} {size:Nat} {A:OA} {n c:Nat} {xs:VL} (h:w.ownsRow base e size (.slice A n c) n xs) (hn:0<n):∃ g,A=some ⟨g,0,none⟩∧base≤g∧g<w.heap.size∧∀ j,w.frozen? ⟨g,j,none⟩=false:=by
 obtain ⟨g,cap,hv,hb,A0⟩:=h.form hn
 injection hv with hv
 subst hv
 exact ⟨g,rfl,hb,A0,fun j=>h.frozenAt j⟩
theorem heap_new (w:World) (o:Obj):(w.alloc o).heap[w.heap.size]?=some o:=by show (w.heap.push o)[w.heap.size]?=some o;simp
theorem belc {B:Nat} {w w':World} (h:Below B w w') {b o:Nat} (hb:b<B):w'.cell? ⟨b,o,none⟩=w.cell? ⟨b,o,none⟩:=h.cell (p:=⟨b,o,none⟩) hb
theorem belf {B:Nat} {w w':World} (h:Below B w w') {b o:Nat} (hb:b<B):w'.frozen? ⟨b,o,none⟩=w.frozen? ⟨b,o,none⟩:=h.frozen (p:=⟨b,o,none⟩) hb
theorem dc_ {w:World} {base:Nat} {e:TypeId} {size:Nat} {A:OA} {n c:Nat} {xs:VL} (h:w.ownsRow base e size (.slice A n c) n xs):n≤c∧(A=none→c=0):=by
 rcases h.2 with ⟨h',h0⟩ | ⟨g,cap,cur,h',_,_,hnc,_⟩
 ·injection h' with h1 h2 h3
  subst h1 h3
  exact ⟨by omega,fun _=>rfl⟩
 ·injection h' with h1 h2 h3
  subst h1 h3
  exact ⟨hnc,fun h=>by cases h⟩
theorem own_cap {w:World} {base:Nat} {e:TypeId} {size:Nat} {A:OA} {n c:Nat} {xs:VL} (h:w.ownsRow base e size (.slice A n c) n xs):c≤9223372036854775807:=by
 rcases h.2 with ⟨h',h0⟩ | ⟨g,cap,cur,h',_,_,_,hcm,_⟩
 ·injection h' with h1 h2 h3
  subst h3
  omega
 ·injection h' with h1 h2 h3
  subst h3
  unfold maxLen at hcm;omega
theorem own_lo {w:World} {base:Nat} {e:TypeId} {size:Nat} {A:OA} {n c:Nat} {xs:VL} (h:w.ownsRow base e size (.slice A n c) n xs) {b:Nat} (hb:b≤base):∀ ad,A=some ad→b≤ad.block:=by
 intro ad hA
 subst hA
 rcases h.2 with ⟨h',_⟩ | ⟨g,cap,cur,h',hbg,_⟩
 ·cases h'
 ·injection h' with h1 _ _
  injection h1 with h1
  subst h1
  show b≤g
  omega
theorem Sl.src {α:Type} {w:World} {B sz n:Nat} {cells:α→VL} {A:OA} {l:List α} (h:Sl w B sz cells A n l) (hsz:∀ x,(cells x).length=sz):(A=none→n=0)∧(∀ ad,A=some ad→∀ (j:Nat) (u:Value),(l.flatMap cells)[j]?=some u→w.cell? (ad.add j)=some u):=by
 refine ⟨fun hA=>?_,fun ad hA j u hu=>?_⟩
 ·rcases Nat.eq_zero_or_pos n with h0 | h0
  ·exact h0
  ·obtain ⟨ab,ao,e,_⟩:=h.at_ h0
   rw [hA] at e;cases e
 ·have hj:j<(l.flatMap cells).length:=(List.getElem?_eq_some_iff.1 hu).1
  rw [flat_len hsz] at hj
  have hp:0<l.length:=by rcases Nat.eq_zero_or_pos l.length with h0 | h0;(rw [h0] at hj;omega);exact h0
  have hz:0<sz:=by rcases Nat.eq_zero_or_pos sz with h0 | h0;(rw [h0] at hj;omega);exact h0
  obtain ⟨ab,ao,e,_,A1⟩:=h.at_ (by rw [←h.len];exact hp)
  rw [hA] at e
  injection e with e
  subst e
  rw [Addr.add_lit]
  have hd:j / sz<l.length:=Nat.div_lt_of_lt_mul (by rw [Nat.mul_comm];exact hj)
  have hx:=ge_ hd
  have hm:j % sz<(cells l[j / sz]).length:=by rw [hsz];exact Nat.mod_lt _ hz
  have h2:=flat_get hsz l (j / sz) _ hx (j % sz) _ (ge_ hm)
  have A0:j / sz*sz+j % sz=j:=Nat.div_add_mod' j sz
  rw [A0,hu] at h2
  injection h2 with h2
  have h3:=A1 _ _ hx (j % sz) _ (ge_ hm)
  rw [A0,←h2] at h3
  exact h3
def Room (A:OA) (n c:Nat):Prop:=n≤c∧(A=none∧c=0∨∃ g o,A=some ⟨g,o,none⟩)
theorem own_mono {w:World} {base base':Nat} {e:TypeId} {size:Nat} {v:Value} {n:Nat} {xs:VL} (h:w.ownsRow base e size v n xs) (hb:base'≤base):w.ownsRow base' e size v n xs:=by
 refine ⟨h.1,?_⟩
 rcases h.2 with h' | ⟨g,cap,cur,hv,hg,hr⟩
 ·exact .inl h'
 ·exact .inr ⟨g,cap,cur,hv,by omega,hr⟩
theorem flat_set2 {α:Type} {cells:α→VL} (hsz:∀ x,(cells x).length=2) (x':α) (u v:Value) (hx:cells x'=[u,v]):∀ (l:List α) (k:Nat),k<l.length→((l.flatMap cells).set (k*2) u).set (k*2+1) v=(l.set k x').flatMap cells
 | [],k,h=>by simp at h
 | y :: l,0,_=>by
  have hy:=hsz y
  match hc:cells y,hy with
  | [a,b],_=>simp [List.flatMap_cons,hc,hx]
 | y :: l,k+1,h=>by
  have hy:=hsz y
  have ih:=flat_set2 hsz x' u v hx l k (by simpa using h)
  match hc:cells y,hy with
  | [a,b],_ =>
   simp only [List.flatMap_cons,hc,List.set_cons_succ]
   rw [←ih,show (k+1)*2=k*2+1+1 from by omega,show k*2+1+1+1=k*2+1+1+1 from rfl]
   simp
theorem own_put2 {α:Type} {cells:α→VL} (hsz:∀ x,(cells x).length=2) {w:World} {base:Nat} {e:TypeId} {g n c:Nat} {l:List α} (h:w.ownsRow base e 2 (.slice (some ⟨g,0,none⟩) n c) n (l.flatMap cells)) (hl:l.length=n) {k:Nat} (hk:k<n) (x':α) (u v:Value) (hx:cells x'=[u,v]) :
  ((w.setCell ⟨g,k*2,none⟩ u).setCell ⟨g,k*2+1,none⟩ v).ownsRow base e 2 (.slice (some ⟨g,0,none⟩) n c) n ((l.set k x').flatMap cells):=by
 rw [←flat_set2 hsz x' u v hx l k (by omega)]
 exact ((h.stored _ _).1.stored _ _).1
theorem Sl.apart {α:Type} {w w':World} {B sz n:Nat} {cells:α→VL} {A:OA} {l:List α} {row:Option Nat} (h:Sl w B sz cells A n l) (hB:B≤w.heap.size) (hg:w.grownBy w' row) (hne:0<n→∀ ad,A=some ad→some ad.block≠row):Sl w' B sz cells A n l :=
 ⟨h.len,fun hn=>by
  obtain ⟨ab,ao,e,A0,hc⟩:=h.at_ hn
  exact ⟨ab,ao,e,A0,fun i x hx j u hu=>((gcell hg).1 ab _ (by omega) (hne hn _ e)).trans (hc i x hx j u hu)⟩⟩
theorem dl_ (w:World) (p:Addr) (u:Value):w.grownBy (w.setCell p u) (some p.block) :=
 ⟨rfl,rfl,rfl,by simp,fun k _ A0=>Below.heap_setCell w p u k (fun e=>A0 (by rw [e]))⟩
theorem grown2 (w:World) (g i j:Nat) (u v:Value):w.grownBy ((w.setCell ⟨g,i,none⟩ u).setCell ⟨g,j,none⟩ v) (some g):=(dl_ w ⟨g,i,none⟩ u).trans (dl_ _ ⟨g,j,none⟩ v)
theorem own_eq {w:World} {base:Nat} {e:TypeId} {size a b c:Nat} {A:OA} {xs:VL} (h:a=b) (ho:w.ownsRow base e size (.slice A a c) a xs):w.ownsRow base e size (.slice A b c) b xs:=by subst h;exact ho
theorem Sl.put2 {α:Type} {w:World} {B n g ao k:Nat} {cells:α→VL} {l:List α} {u v:Value} (hsz:∀ x,(cells x).length=2) (h:Sl w B 2 cells (some ⟨g,ao,none⟩) n l) (hk:k<n) (x':α) (hx:cells x'=[u,v]) (p q:Addr) (hp:p=⟨g,ao+k*2,none⟩) (hq:q=⟨g,ao+k*2+1,none⟩) :
  Sl ((w.setCell p u).setCell q v) B 2 cells (some ⟨g,ao,none⟩) n (l.set k x'):=by
 subst hp hq
 obtain ⟨t,ht⟩:∃ t,l[k]?=some t:=⟨_,ge_ (by rw [h.len];exact hk)⟩
 refine ⟨by rw [List.length_set];exact h.len,fun hn=>⟨g,ao,rfl,h.lt hn,fun i x A0 j s hs=>?_⟩⟩
 rw [gs_] at A0
 have hj:j<2:=by have:=(List.getElem?_eq_some_iff.1 hs).1;rwa [hsz] at this
 by_cases hik:k=i
 ·subst hik
  rw [if_pos rfl,if_pos (by rw [h.len];exact hk)] at A0
  injection A0 with A0
  subst A0
  rw [hx] at hs
  have e0:w.cell? ⟨g,ao+k*2,none⟩=some ((cells t)[0]'(by rw [hsz];omega)):=sl_at h ht (j:=0) (ge_ _)
  have e1:w.cell? ⟨g,ao+k*2+1,none⟩=some ((cells t)[1]'(by rw [hsz];omega)):=sl_at h ht (j:=1) (ge_ _)
  match j,hj,hs with
  | 0,_,hs =>
   injection hs with hs;subst hs
   rw [Nat.add_zero,be_ _ _ _ _ (by intro e;injection e with e1 e2;omega)]
   exact World.cell?_setCell_same _ _ _ e0
  | 1,_,hs =>
   injection hs with hs;subst hs
   exact World.cell?_setCell_same _ _ _ ((be_ _ _ _ _ (by intro e;injection e with e1 e2;omega)).trans e1)
 ·rw [if_neg hik] at A0
  rw [be_ _ _ _ _ (by intro e;injection e with e1 e2;omega),be_ _ _ _ _ (by intro e;injection e with e1 e2;omega)]
  exact sl_at h A0 hs
end Go.Proofs.YtfolidlmgfhkiaaGreat
