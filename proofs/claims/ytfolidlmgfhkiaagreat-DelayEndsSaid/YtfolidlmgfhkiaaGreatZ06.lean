/- Lemmas: each says what a function of the program leaves, under the conditions that it states. -/
import Derived.Test.YtfolidlmgfhkiaaGreatZ04
import Derived.ArgAppend
set_option linter.unusedVariables false
set_option linter.unusedSimpArgs false
set_option maxRecDepth 100000
set_option maxHeartbeats 4000000
namespace Go.Proofs.YtfolidlmgfhkiaaGreat
open Go.RowKit
def Wi (X:NP) (o:Option Nat):NP:=fun k=>X k∨o=some k
def OwT (w:World) (base:Nat) (et:TypeId) (e:List CT) (X:NP) (K:Nat) (A:OA) (n c:Nat):Prop :=
 ∃ xs,w.ownsRow base et e.length (.slice A n c) n xs/\∀ k j t,k<n->e[j]?=some t->∃ u,xs[k*e.length+j]?=some u/\VT w (Wi X (Value.slice A n c).ownBlock) K t u
section
variable {X Y:NP} {w w':World} {K K' base n m c c2:Nat} {et:TypeId} {e:List CT} {A B:OA}
theorem OwT.nil (w:World) (base:Nat) (et:TypeId) (e:List CT) (X:NP) (K:Nat):OwT w base et e X K none 0 0:=⟨[],World.ownsRow_nil _ _ _ _,fun k j t h=>absurd h o_⟩
theorem OwT.slT (h:OwT w base et e X K A n c) (hb:∀ k,X k->k<base) (hn:n<=K):SlT w X K e A n c:=by
 obtain ⟨xs,ho,hx⟩:=h;exact SlT.ee_ ho hb hn (fun k j t hk hj=>by obtain ⟨u,hu,hv⟩:=hx k j t hk hj;exact ⟨u,hu,hv.less (fun k _ h=>.inl h)⟩)
theorem OwT.mono {base':Nat} (h:OwT w base et e X K A n c) (hb:base'<=base) (hK:K<=K'):OwT w base' et e X K' A n c:=by
 obtain ⟨xs,ho,hx⟩:=h;exact ⟨xs,own_mono ho hb,fun k j t hk hj=>by obtain ⟨u,hu,hv⟩:=hx k j t hk hj;exact ⟨u,hu,hv.kept (Kp.refl _ _) (fun _ _ h=>h) hK⟩⟩
theorem OwT.kept (h:OwT w base et e X K A n c) {row:Option Nat} (hg:w.grownBy w' row) (hr:∀ k,row=some k->X k/\k<base):OwT w' base et e X K A n c:=by
 obtain ⟨xs,ho,hx⟩:=h;have hne:∀ k,row=some k->(Value.slice A n c).ownBlock≠some k:=fun k hk h'=>by have:=(an_ ho h').1;have:=(hr k hk).2;omega
 refine ⟨xs,ho.kept hg (by cases row with | none=>cases (Value.slice A n c).ownBlock <;> simp | some k=>exact .inr (hne k rfl)),fun k j t hk hj=>?_⟩;obtain ⟨u,hu,hv⟩:=hx k j t hk hj;exact ⟨u,hu,hv.kept ((Kp.refl _ w).grown hg (fun k hk=>.inl (.inl (hr k hk).1))) (fun _ _ h=>h) (l_)⟩
theorem OwT.below (h:OwT w base et e X K A n c) (hb:Below w w w'):OwT w' base et e X K A n c:=h.kept (ce_ hb none) (fun _ h=>by cases h)
theorem SlT.news (h:SlT w X K e A n c):∃ news:VL,news.length=n*e.length/\(A=none->n=0)/\(∀ ad,A=some ad->∀ (j:Nat) (u:Value),news[j]?=some u->w.cell? (ad.add j)=some u)/\(∀ u ∈ news,u.oneCell'=true) ∧
  ∀ k j t,k<n->e[j]?=some t->∃ u,news[k*e.length+j]?=some u/\VT w X K t u:=by
 rcases Nat.eq_zero_or_pos n with rfl | hn
 ·exact ⟨[],by simp,fun _=>rfl,fun ad _ j u hu=>by simp at hu,fun u hu=>by simp at hu,fun k j t hk=>absurd hk o_⟩
 cases A with
 | none=>exact absurd (h.nul rfl).1 o_
 | some ad =>
  obtain ⟨g,o,rfl,hg,hX,f,hf,ht⟩:=h.at_ _ rfl;have A3:∀ i,i<n*e.length->i / e.length<n/\i % e.length<e.length/\i / e.length*e.length+i % e.length=i:=fun i hi=>by
   have A1:0<e.length:=by rcases Nat.eq_zero_or_pos e.length with h0 | h0;(rw [h0] at hi;omega);exact h0
   exact ⟨Nat.div_lt_of_lt_mul (by rw [Nat.mul_comm];exact hi),Nat.mod_lt _ A1,Nat.div_add_mod' i e.length⟩
  refine ⟨(List.range (n*e.length)).map fun i=>f (i / e.length) (i % e.length),by simp,x_,fun ad A0 j u hu=>?_,fun u hu=>?_,fun k j t hk hj=>?_⟩
  ·injection A0 with A0;subst A0;have hj:j<n*e.length:=by have:=(e_ hu).1;simpa using this
   simp [hj] at hu;subst hu;obtain ⟨h1,h2,h3⟩:=A3 j hj;rw [Addr.add_lit];have:=hf (j / e.length) (j % e.length) _ h1 (ge_ h2)
   rwa [h3] at this
  ·obtain ⟨i,hi,rfl⟩:=List.mem_map.1 hu;have hi:=List.mem_range.1 hi;obtain ⟨h1,h2,_⟩:=A3 i hi;exact (ht _ _ _ h1 (ge_ h2)).one
  have A2:j<e.length:=(e_ hj).1;have A4:k*e.length+j<n*e.length:=by
   have:(k+1)*e.length<=n*e.length:=Nat.mul_le_mul_right _ hk;rw [Nat.add_mul] at this;omega
  have hd:(k*e.length+j) / e.length=k:=by rw [Nat.mul_comm,Nat.mul_add_div o_,Nat.div_eq_of_lt A2];omega
  have hm:(k*e.length+j) % e.length=j:=by rw [Nat.mul_comm,Nat.mul_add_mod,Nat.mod_eq_of_lt A2]
  exact ⟨f k j,by simp [A4,hd,hm],ht k j t hk hj⟩
theorem SlT.take {X:NP} {w:World} {K n c k:Nat} {e:List CT} {A:OA} (h:SlT w X K e A n c) (hk:k<=n) (c':Nat) (hc:k<=c') (hm:c'<=c):SlT w X K e A k c':=by
 refine ⟨Nat.le_trans hk h.le,hc,by have:=h.max;omega,fun hA=>?_,fun ad hA=>?_⟩
 ·have:=h.nul hA;omega
 obtain ⟨g,o,e1,hg,hX,f,hf,ht⟩:=h.at_ ad hA;exact ⟨g,o,e1,hg,hX,f,fun q j t hq hj=>hf q j t o_ hj,fun q j t hq hj=>ht q j t o_ hj⟩
theorem SlT.drop {X:NP} {w:World} {K n c k:Nat} {e:List CT} {A:OA} (h:SlT w X K e A n c) (hk:k<=n):SlT w X K e (cutA A c k e.length) (n - k) (c - k):=by
 unfold cutA;split
 ·rename_i hck
  have A0:n - k=0:=by have:=h.cap;omega
  rw [A0];exact h.take (Nat.zero_le _) _ (Nat.zero_le _) o_
 refine ⟨by have:=h.le;omega,by have:=h.cap;omega,by have:=h.max;omega,fun hA=>?_,fun ad hA=>?_⟩
 ·cases A with
  | none=>have:=h.nul rfl;omega
  | some ad=>cases hA
 cases A with
 | none=>cases hA
 | some bd =>
  obtain ⟨g,o,rfl,hg,hX,f,hf,ht⟩:=h.at_ bd rfl;injection hA with hA;subst hA;refine ⟨g,o+k*e.length,by show Addr.add _ _=_;rw [Addr.add_lit],hg,hX,fun q j=>f (k+q) j,fun q j t hq hj=>?_,fun q j t hq hj=>ht (k+q) j t o_ hj⟩;have:=hf (k+q) j t o_ hj;rw [Nat.add_mul] at this;rw [show o+k*e.length+(q*e.length+j)=o+(k*e.length+q*e.length+j) from by omega];exact this
theorem OwT.set {X:NP} {w:World} {K base n c g k j:Nat} {et:TypeId} {e:List CT} {t:CT} {u:Value} (h:OwT w base et e X K (some (a_ g)) n c) (hk:k<n) (hj:e[j]?=some t) (hv:VT w (Wi X (some g)) K t u) (p:Addr) (hp:p=⟨g,k*e.length+j,none⟩):OwT (w.setCell p u) base et e X K (some (a_ g)) n c:=by
 subst hp;obtain ⟨xs,ho,hx⟩:=h;have A3:j<e.length:=(e_ hj).1;have A0:Kp (Wi X (some g)) w (w.setCell ⟨g,k*e.length+j,none⟩ u):=(Kp.refl _ w).setCell (.inl (.inr rfl)) u;refine ⟨xs.set (k*e.length+j) u,(ho.stored _ _).1,fun q i s hq hi=>?_⟩;have A2:i<e.length:=(e_ hi).1;obtain ⟨v,A1,A4⟩:=hx q i s hq hi;by_cases hsame:k=q/\j=i
 ·obtain ⟨rfl,rfl⟩:=hsame;rw [hj] at hi;injection hi with hi;subst hi;exact ⟨u,by rw [gs_,if_pos rfl,if_pos (e_ A1).1],hv.up A0 (l_)⟩
 have hne:k*e.length+j≠q*e.length+i:=slot_ne A3 A2 (by
  by_cases h1:k=q
  ·exact .inr (fun h2=>hsame ⟨h1,h2⟩)
  exact .inl h1)
 exact ⟨v,by rw [gs_,if_neg hne];exact A1,A4.up A0 (l_)⟩
theorem ep_ {P:Program} {t e:TypeId} {i:TypeInfo} (hu:P.underlying t=some (.slice e)) (hi:P.info? e=some i) {A:OA} {n c k:Nat} (hk:k<=c) (w:World) :
  (Instr.slice t (.slice A n c) none (some (i_ k)) (some (i_ k))).run P w=.ok (.slice A k k) w:=by
 have hm:A.map (·.add 0)=A:=by cases A <;> simp [Addr.add]
 simp [Instr.slice,run_underlying hu,Instr.sliceBounds,Instr.sliceBound,asIntOf,hk,sizeOf,typeInfo,hi,hm];try (intro h;subst h;cases A <;> simp [Addr.add])
theorem SlT.lit1 {X:NP} {w:World} {K:Nat} {e:List CT} {vs:VL} (hv:VTs w X K e vs) (et:TypeId) (hX:¬X w) (hK:1<=K):SlT (w.alloc (.cells vs.toArray et)) X K e (some (a_ w)) 1 1:=by
 have hk:Kp X w (w.alloc (.cells vs.toArray et)):=(Kp.refl X w).alloc _;refine ⟨hK,l_,o_,x_,fun ad A0=>?_⟩;injection A0 with A0;subst A0;refine ⟨_,_,rfl,by simp,hX,fun _ j=>vs.getD j undef,fun k j t A1 hj=>?_,fun k j t A1 hj=>?_⟩
 ·obtain rfl:k=0:=by omega
  obtain ⟨u,hu,_⟩:=hv.2 j t hj;rw [aj_ _ _ _ _ _ rfl];simp [hu]
 obtain ⟨u,hu,A2⟩:=hv.2 j t hj;show VT _ X K t (vs.getD j undef)
 rw [List.getD_eq_getElem?_getD,hu];exact A2.up hk (l_)
theorem ed_ {X:NP} {w:World} {K:Nat} (a b:Int) (r:Bool) (n:Int):VTs w X K [.num,.num,.tru,.num] [i_ a,i_ b,.bool r,i_ n]:=VTs.cons (.num _) (VTs.cons (.num _) (VTs.cons (.tru _) (VTs.cons (.num _) VTs.nil)))
theorem own_append {xs news:VL} {A':OA} {c':Nat} (h:OwT w base et e X K A n c) (hxs:w.ownsRow base et e.length (.slice A n c) n xs/\∀ k j t,k<n->e[j]?=some t->∃ u,xs[k*e.length+j]?=some u/\VT w (Wi X (Value.slice A n c).ownBlock) K t u)
  (hl:news.length=m*e.length) (hn:∀ k j t,k<m->e[j]?=some t->∃ u,news[k*e.length+j]?=some u/\VT w (Wi X (Value.slice A n c).ownBlock) K t u)
  (hX:∀ k,X k->k<w) (ho:w'.ownsRow base et e.length (.slice A' (n+m) c') (n+m) (xs ++ news)) (hg:w.grownBy w' (Value.slice A n c).ownBlock) (hloc:∀ g,(Value.slice A' (n+m) c').ownBlock=some g->(Value.slice A n c).ownBlock=some g∨g=w) :
  OwT w' base et e X K A' (n+m) c':=by
 have A0:xs.length=n*e.length:=hxs.1.1;have up:∀ {t:CT} {u:Value},VT w (Wi X (Value.slice A n c).ownBlock) K t u->VT w' (Wi X (Value.slice A' (n+m) c').ownBlock) K t u:=fun hv =>
  hv.kept ((Kp.refl _ w).grown hg (fun k hk=>.inl (.inr hk))) (fun k hk A1 hin=>by
   rcases hin with hin | hin
   ·exact A1 (.inl hin)
   rcases hloc k hin with h1 | h1
   ·exact A1 (.inr h1)
   omega) (l_)
 refine ⟨xs ++ news,ho,fun k j t hk hj=>?_⟩;have A2:j<e.length:=(e_ hj).1;by_cases hkn:k<n
 ·obtain ⟨u,hu,hv⟩:=hxs.2 k j t hkn hj;exact ⟨u,by rw [List.getElem?_append_left (e_ hu).1];exact hu,up hv⟩
 obtain ⟨u,hu,hv⟩:=hn (k - n) j t o_ hj;refine ⟨u,?_,up hv⟩;have e1:k*e.length=n*e.length+(k - n)*e.length:=by rw [←Nat.add_mul];congr 1;omega
 rw [List.getElem?_append_right (by rw [A0];omega),A0,show k*e.length+j - n*e.length=(k - n)*e.length+j from by omega];exact hu
end
section
variable {P:Program} {w:World} {ops:Array Oper} {rest:List Oper} {o:Oper} {a:Act} {Q:Exit->Act->World->Prop}
theorem aq_ (hgd:o.guard=none) (s x:Operand) (t:TypeId) (ho:o.op=.call { callee:=.builtin .append,args:=#[s,x],argTypes:=#[t,t] })
  (base:Nat) (et:TypeId) (i:TypeInfo) (z:Value) (bytes:Nat) (e:List CT) (X:NP) (K:Nat) (ht:P.underlying t=some (.slice et)) (hi:P.info? et=some i) (hz:i.zero=some z) (hsize:i.size=e.length) (hby:i.bytes=bytes) (hzs:z.cells.size=e.length) (hsz:0<e.length)
  (A:OA) (n c:Nat) (hs:a.eval s=.slice A n c) (hown:OwT w base et e X K A n c) (B:OA) (m d:Nat) (hx:a.eval x=.slice B m d) (hsrc:SlT w (Wi X (Value.slice A n c).ownBlock) K e B m d)
  (hX:∀ k,X k->k<w) (h63:n+m<=maxLen) (hbytes:(n+m)*bytes<=140737488355328) (hbase:base<=w)
  (h:∀ A' c' w',OwT w' base et e X K A' (n+m) c'->w.grownBy w' (Value.slice A n c).ownBlock->(∀ g,(Value.slice A' (n+m) c').ownBlock=some g->(Value.slice A n c).ownBlock=some g∨g=w)->wpList P ops Q rest (a.put o.dst (.slice A' (n+m) c')) w'):wpList P ops Q (o :: rest) a w:=by
 obtain ⟨xs,h1,h2⟩:=hown;obtain ⟨news,n1,n2,n3,n4,n5⟩:=hsrc.news;exact cj_ hgd s x t ho base et i z e.length bytes ht hi hz hsize hby hzs hsz _ n xs hs h1 B m d news hx n2 n1 n3 n4 h63 hbytes hbase (fun A' c' w' g1 g2 g3=>h A' c' w' (own_append ⟨xs,h1,h2⟩ ⟨h1,h2⟩ n1 n5 hX g1 g2 g3) g2 g3)
theorem bu_ {K0:Act->World->Prop} {E:Prop} (hgd:o.guard=none) (s x:Operand) (t:TypeId) (ho:o.op=.call { callee:=.builtin .append,args:=#[s,x],argTypes:=#[t,t] })
  (base:Nat) (et:TypeId) (i:TypeInfo) (z:Value) (bytes:Nat) (e:List CT) (X:NP) (K:Nat) (ht:P.underlying t=some (.slice et)) (hi:P.info? et=some i) (hz:i.zero=some z) (hsize:i.size=e.length) (hby:i.bytes=bytes) (hzs:z.cells.size=e.length) (hsz:0<e.length)
  (A:OA) (n c:Nat) (hs:a.eval s=.slice A n c) (hown:OwT w base et e X K A n c) (B:OA) (m d:Nat) (hx:a.eval x=.slice B m d) (hsrc:SlT w (Wi X (Value.slice A n c).ownBlock) K e B m d)
  (hX:∀ k,X k->k<w) (h63:n+m<=maxLen) (hbytes:(n+m)*bytes<=140737488355328) (hbase:base<=w)
  (h:∀ A' c' w',OwT w' base et e X K A' (n+m) c'->w.grownBy w' (Value.slice A n c).ownBlock->(∀ g,(Value.slice A' (n+m) c').ownBlock=some g->(Value.slice A n c).ownBlock=some g∨g=w)->K0 (a.put o.dst (.slice A' (n+m) c')) w') :
  if Region.wanted o (yielded ops a.tmps)=true then Oper.wp P o a w K0 Q else E:=by
 obtain ⟨xs,h1,h2⟩:=hown;obtain ⟨news,n1,n2,n3,n4,n5⟩:=hsrc.news;exact dt_ hgd s x t ho base et i z e.length bytes ht hi hz hsize hby hzs hsz _ n xs hs h1 B m d news hx n2 n1 n3 n4 h63 hbytes hbase (fun A' c' w' g1 g2 g3=>h A' c' w' (own_append ⟨xs,h1,h2⟩ ⟨h1,h2⟩ n1 n5 hX g1 g2 g3) g2 g3)
theorem eq_ {P:Program} (w:World) (t ty:TypeId) (et:TypeId) (i:TypeInfo) (z:Value) (bytes:Nat) (e:List CT) (X:NP) (K:Nat) (ht:P.underlying t=some (.slice et)) (hi:P.info? et=some i) (hz:i.zero=some z) (hsize:i.size=e.length) (hby:i.bytes=bytes) (hzs:z.cells.size=e.length) (hsz:0<e.length)
  (A:OA) (n c:Nat) (hdst:SlT w X K e A n c) (B:OA) (m d:Nat) (hsrc:SlT w X K e B m d) (hm:0<m) (hfull:c<n+m) (hX:∀ k,X k->k<w) (h63:n+m<=maxLen) (hbytes:(n+m)*bytes<=140737488355328) :
  ∃ A' c' w',(Builtin.append_ #[t,t] ty #[.slice A n c,.slice B m d]).run P w=.ok (.slice A' (n+m) c') w'/\OwT w' w et e X K A' (n+m) c'/\Below w w w':=by
 obtain ⟨A0,o1,o2,o3,o4,o5⟩:=hdst.news;obtain ⟨news,n1,n2,n3,n4,n5⟩:=hsrc.news;cases B with
 | none=>exact absurd (n2 rfl) o_
 | some bd =>
  have A2:∀ v' w',w'.ownsRow w et e.length v' (n+m) (A0 ++ news)->w.grownBy w' none->∃ A' c',v'=.slice A' (n+m) c'/\OwT w' w et e X K A' (n+m) c'/\Below w w w':=fun v' w' r1 r2=>by
   obtain ⟨A',c',rfl⟩:=own_form r1 o_;have hb:Below w w w':=am_ r2 (l_) (fun k hk=>by cases hk);refine ⟨A',c',rfl,⟨A0 ++ news,r1,fun k j t hk hj=>?_⟩,hb⟩;have up:∀ {t:CT} {u:Value},VT w X K t u->VT w' (Wi X (Value.slice A' (n+m) c').ownBlock) K t u:=fun hv=>hv.kept (Kp.of_below hb) (fun k hk A1 hin=>by
    rcases hin with hin | hin
    ·exact A1 hin
    have:=(an_ r1 hin).1;omega) (l_)
   by_cases hkn:k<n
   ·obtain ⟨u,hu,hv⟩:=o5 k j t hkn hj;exact ⟨u,by rw [List.getElem?_append_left (e_ hu).1];exact hu,up hv⟩
   obtain ⟨u,hu,hv⟩:=n5 (k - n) j t o_ hj;refine ⟨u,?_,up hv⟩;have e1:k*e.length=n*e.length+(k - n)*e.length:=by rw [←Nat.add_mul];congr 1;omega
   rw [List.getElem?_append_right (by rw [o1];omega),o1,show k*e.length+j - n*e.length=(k - n)*e.length+j from by omega];exact hu
  cases A with
  | some ad =>
   obtain ⟨v',w',hr,r1,r2⟩:=run_append_arg_grows (P:=P) w t ty et i z e.length bytes ht hi hz hsize hby hzs hsz ad n c A0 o1 (o3 ad rfl) bd m d news n1 (n3 bd rfl) hfull h63 hbytes;obtain ⟨A',c',rfl,h1,h2⟩:=A2 v' w' r1 r2;exact ⟨A',c',w',hr,h1,h2⟩
  | none =>
   obtain ⟨rfl,rfl⟩:=hdst.nul rfl;obtain rfl:A0=[]:=List.eq_nil_of_length_eq_zero (by simpa using o1);obtain ⟨v',w',hr,r1,r2,_⟩:=run_append_own (P:=P) w w t ty et i z e.length bytes ht hi hz hsize hby hzs hsz (.slice none 0 0) 0 [] (World.ownsRow_nil w _ et e.length) bd m d news n1 (n3 bd rfl) n4 h63 hbytes (l_);obtain ⟨A',c',rfl,h1,h2⟩:=A2 v' w' r1 r2;exact ⟨A',c',w',hr,h1,h2⟩
theorem br_ {K0:Act->World->Prop} {E:Prop} (hgd:o.guard=none) (s x:Operand) (t:TypeId) (ho:o.op=.call { callee:=.builtin .append,args:=#[s,x],argTypes:=#[t,t] })
  (et:TypeId) (i:TypeInfo) (z:Value) (bytes:Nat) (e:List CT) (X:NP) (K:Nat) (ht:P.underlying t=some (.slice et)) (hi:P.info? et=some i) (hz:i.zero=some z) (hsize:i.size=e.length) (hby:i.bytes=bytes) (hzs:z.cells.size=e.length) (hsz:0<e.length)
  (A:OA) (n c:Nat) (hs:a.eval s=.slice A n c) (hdst:SlT w X K e A n c) (B:OA) (m d:Nat) (hx:a.eval x=.slice B m d) (hsrc:SlT w X K e B m d) (hm:0<m) (hfull:c<n+m) (hX:∀ k,X k->k<w) (h63:n+m<=maxLen) (hbytes:(n+m)*bytes<=140737488355328)
  (h:∀ A' c' w',OwT w' w et e X K A' (n+m) c'->Below w w w'->K0 (a.put o.dst (.slice A' (n+m) c')) w'):if Region.wanted o (yielded ops a.tmps)=true then Oper.wp P o a w K0 Q else E:=by
 obtain ⟨A',c',w',hr,h1,h2⟩:=eq_ (P:=P) w t o.type et i z bytes e X K ht hi hz hsize hby hzs hsz A n c hdst B m d hsrc hm hfull hX h63 hbytes;have hw:Region.wanted o (yielded ops a.tmps)=true:=by simp [Region.wanted,hgd]
 rw [if_pos hw];exact Lib.wp_append_run w s x t t ho _ _ hs hx _ _ hr (h A' c' w' h1 h2)
end
end Go.Proofs.YtfolidlmgfhkiaaGreat
