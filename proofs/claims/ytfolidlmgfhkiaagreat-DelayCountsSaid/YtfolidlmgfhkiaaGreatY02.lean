/- Lemmas on functions of the program, under the conditions that each states. -/
import Derived.Test.YtfolidlmgfhkiaaGreatY01
import Derived.ArgAppend
set_option linter.unusedVariables false
set_option linter.unusedSimpArgs false
set_option maxRecDepth 100000
set_option maxHeartbeats 4000000
namespace Go.Proofs.YtfolidlmgfhkiaaGreat
open Go.RowKit Go.Proofs.Tryz
theorem number_any (n:Int) (w:World):Calls prog 199 #[i_ n] w fun e w'=>e=.returned (.agg #[.bool false,i_ n])/\Below w w w':=by
 go_enter func199,ntmps199;go_wp2;exact bodyPost_ret (v:=.agg #[.bool false,i_ n]) (by simp [results,results199,go_sem]) rfl ⟨rfl,(bel (b_))⟩
theorem flag_any (b:Bool) (w:World):Calls prog 198 #[.bool b] w fun e w'=>(∃ n:Int,e=.returned (.agg #[.bool false,i_ n]))/\Below w w w':=by
 obtain ⟨W,hW,A0,A1,B0⟩:=ag_ w [.bool false,i_ 0] 38;have KB:=q_ B0;have KW:=q_ A0;clear B0 A0 A1;go_enter func198,ntmps198;go_upto_region 1 with fail;rw [<-hW];clear hW;go_wp2_with (refine (number_any _ _).mono ?_;rintro e w1 ⟨rfl,hb⟩;have hB:=q_ (KB.o.below hb);have A2:=q_ (KW.o.trans (hb.mono KW.o.size));have r0:=hB.o.2.1 0 _ rfl;have r1:=hB.o.2.1 1 _ rfl;have f0:=hB.o.2.2);all_goals
  exact retC results198 zc_ underlying38 rfl k_ (cs:=[_,_]) ((hB.o.set 0 _).set 1 _).whole rfl ⟨⟨_,rfl⟩,(bel A2.o)⟩
theorem Apply_any (op:Int) (a b:Val) (w:World) :
  Calls prog 174 #[i_ op,.agg #[.bool a.ref,i_ a.n],.agg #[.bool b.ref,i_ b.n]] w fun e w'=>(∃ n f:Int,e=.returned (.tuple #[.agg #[.bool false,i_ n],i_ f]))/\Below w w w':=by
 obtain ⟨W,hW,A1,A3,B0,B1,B2⟩:=et_ w [.bool a.ref,i_ a.n] 38 [.bool b.ref,i_ b.n] 38 [.bool false,i_ 0] 38;have a0:=B0.2.1 0 _ rfl;have a1:=B0.2.1 1 _ rfl;have b0:=B1.2.1 0 _ rfl;have b1:=B1.2.1 1 _ rfl;have r0:=B2.2.1 0 _ rfl;have r1:=B2.2.1 1 _ rfl;have f0:=B2.2.2;have hB:=q_ B2;have A0:=q_ A1;have K:=h_ (∀ w',Below W W w'->Bx w' (w+2) [.bool false,i_ 0]/\Below w w w') (fun w' hb=>⟨B2.below hb,A1.trans (hb.mono A1.size)⟩);clear A3 A1 B0 B1 B2;go_enter func174,ntmps174;go_upto_region 1 with fail;rw [<-hW];clear hW;go_wp2_with (refine (flag_any _ _).mono ?_;rintro e w1 ⟨⟨nf,rfl⟩,hb⟩;obtain ⟨hB,A0⟩:=K.o w1 hb;have hB:=q_ hB;have A0:=q_ A0;have r0:=hB.o.2.1 0 _ rfl;have r1:=hB.o.2.1 1 _ rfl;have f0:=hB.o.2.2);all_goals try (refine ce_ results174 zc_ underlying38 rfl k_ (cs:=[_,_]) ((hB.o.set 0 _).set 1 _).whole rfl ?_;exact ⟨⟨_,_,rfl⟩,(bel A0.o)⟩)
 go_quiet (fail);have A2:Below W W (W.drewN nq):=below_drewN (b_) _;have HQ:=q_ A2;have hB:=q_ (K.o _ A2).1;have A0:=q_ (K.o _ A2).2;clear A2;go_wp2_with (first
  | (refine (number_any _ _).mono ?_;rintro e w1 ⟨rfl,hb⟩;obtain ⟨hB,A0⟩:=K.o w1 (HQ.o.trans hb);have hB:=q_ hB;have A0:=q_ A0;have r0:=hB.o.2.1 0 _ rfl;have r1:=hB.o.2.1 1 _ rfl;have f0:=hB.o.2.2)
  | (refine (flag_any _ _).mono ?_;rintro e w1 ⟨⟨nf,rfl⟩,hb⟩;obtain ⟨hB,A0⟩:=K.o w1 (HQ.o.trans hb);have hB:=q_ hB;have A0:=q_ A0;have r0:=hB.o.2.1 0 _ rfl;have r1:=hB.o.2.1 1 _ rfl;have f0:=hB.o.2.2))
 all_goals try (refine ce_ results174 zc_ underlying38 rfl k_ (cs:=[_,_]) ((hB.o.set 0 _).set 1 _).whole rfl ?_;exact ⟨⟨_,_,rfl⟩,(bel A0.o)⟩)
 all_goals (exfalso;first | contradiction | omega | simp_all)
theorem Truthy_any (v:Val) (w:World):Calls prog 176 #[.agg #[.bool v.ref,i_ v.n]] w fun e w'=>RB e/\Below w w w':=by
 go_enter func176,ntmps176;exact t0_
def RSB (e:Ending):Prop:=∃ s b,e=.returned (.tuple #[.string s,.bool b])
def RNB (e:Ending):Prop:=∃ n b,e=.returned (.tuple #[i_ n,.bool b])
theorem ey_ (op:Int) (w:World):Calls prog 169 #[i_ op] w fun e w'=>RB e/\Below w w w':=by
 go_enter func169,ntmps169;go_wp2;all_goals
  go_ret;exact ⟨⟨_,rfl⟩,(bel (b_))⟩
theorem names_any (w:World):Calls prog 197 #[] w fun e w'=>(∃ g,e=.returned (.slice (some (a_ g)) 12 12)/\g<w'/\Hid (∀ k:Nat,k<12->∃ s,w'.cell? (f_ g k)=some (.string s)))/\Below w w w':=by
 go_enter func197,ntmps197;go_wp2;go_ret;refine ⟨⟨_,rfl,zk_,q_ (fun k hk=>?_)⟩,(bel (b_))⟩;rw [ar_ _ _ _ _ _ t_]
 match k,hk with
 | 0,_=>exact ⟨_,rfl⟩
 | 1,_=>exact ⟨_,rfl⟩
 | 2,_=>exact ⟨_,rfl⟩
 | 3,_=>exact ⟨_,rfl⟩
 | 4,_=>exact ⟨_,rfl⟩
 | 5,_=>exact ⟨_,rfl⟩
 | 6,_=>exact ⟨_,rfl⟩
 | 7,_=>exact ⟨_,rfl⟩
 | 8,_=>exact ⟨_,rfl⟩
 | 9,_=>exact ⟨_,rfl⟩
 | 10,_=>exact ⟨_,rfl⟩
 | 11,_=>exact ⟨_,rfl⟩
theorem Name_any (op:Int) (w:World):Calls prog 170 #[i_ op] w fun e w'=>RSB e/\Below w w w':=by
 by_cases h1:1<=op/\op<=11
 ·obtain ⟨k,rfl⟩:∃ k:Nat,op=k:=⟨op.toNat,o_⟩;have h0:¬((k:Int)<1):=by omega
  have h2:¬(11:Int)<(k:Int):=by omega
  have h3:(k:Int)<12:=by omega
  have H1:=q_ h1;clear h1;go_enter func170,ntmps170;go_wp2_with (refine (names_any _).mono ?_;rintro e w1 ⟨⟨g,rfl,hg,hc⟩,hb⟩;obtain ⟨s,hs⟩:=hc.o k o_);go_ret2;exact ⟨⟨_,_,rfl⟩,(bel hb)⟩
 have h2:op<1\/11<op:=by omega
 go_enter func170,ntmps170;rcases h2 with h2 | h2
 ·go_wp2;go_ret2;exact ⟨⟨_,_,rfl⟩,(bel (b_))⟩
 have h3:¬op<1:=by omega
 go_wp2;go_ret2;exact ⟨⟨_,_,rfl⟩,(bel (b_))⟩
theorem Op_any (s:ByteArray) (w:World):Calls prog 207 #[.string s] w fun e w'=>RNB e/\Below w w w':=by
 go_enter func207,ntmps207;go_upto_region 2 with (refine (names_any _).mono ?_;rintro e w1 ⟨⟨g,rfl,hg,hc⟩,hb⟩;have HB:=q_ hb;clear hb);go_loopw [8] (fun i wr=>∃ k:Nat,k<=12/\i=i_ k/\Hid (wr=w1)) (fun i _=>12 - (intOf i).toNat)
 case atStart=>exact ⟨0,o_,rfl,q_ rfl⟩
 obtain ⟨k,hk,rfl,A1⟩:=hrel;have hw:=A1.o.symm;subst hw;clear A1;by_cases hlt:k<12
 ·have A0:(k:Int)<12:=by omega
  obtain ⟨t,ht⟩:=hc.o k hlt;go_wp2;all_goals first
   | (go_ret2;exact ⟨⟨_,_,rfl⟩,HB.o⟩)
   | (go_roundw
      case rel=>exact ⟨k+1,o_,za_,q_ ve_⟩
      case measure=>exact me_)
 have A0:¬(k:Int)<12:=by omega
 go_wp2;go_ret2;exact ⟨⟨_,_,rfl⟩,HB.o⟩
end Go.Proofs.YtfolidlmgfhkiaaGreat
namespace Go.Proofs.YtfolidlmgfhkiaaGreat
open Go.RowKit
def Wi (X:NP) (o:Option Nat):NP:=fun k=>X k\/o=some k
def OwT (w:World) (base:Nat) (et:TypeId) (e:List CT) (X:NP) (K:Nat) (A:OA) (n c:Nat):Prop :=
 ∃ xs,w.ownsRow base et e.length (.slice A n c) n xs/\∀ k j t,k<n->e[j]?=some t->∃ u,xs[k*e.length+j]?=some u/\VT w (Wi X (Value.slice A n c).ownBlock) K t u
section
variable {X Y:NP} {w w':World} {K K' base n m c c2:Nat} {et:TypeId} {e:List CT} {A B:OA}
theorem OwT.nil (w:World) (base:Nat) (et:TypeId) (e:List CT) (X:NP) (K:Nat):OwT w base et e X K none 0 0:=⟨[],World.ownsRow_nil _ _ _ _,fun k j t h=>absurd h o_⟩
theorem OwT.slT (h:OwT w base et e X K A n c) (hb:∀ k,X k->k<base) (hn:n<=K):SlT w X K e A n c:=by
 obtain ⟨xs,ho,hx⟩:=h;exact SlT.da_ ho hb hn (fun k j t hk hj=>by obtain ⟨u,hu,hv⟩:=hx k j t hk hj;exact ⟨u,hu,hv.less (fun k _ h=>.inl h)⟩)
theorem OwT.mono {base':Nat} (h:OwT w base et e X K A n c) (hb:base'<=base) (hK:K<=K'):OwT w base' et e X K' A n c:=by
 obtain ⟨xs,ho,hx⟩:=h;exact ⟨xs,own_mono ho hb,fun k j t hk hj=>by obtain ⟨u,hu,hv⟩:=hx k j t hk hj;exact ⟨u,hu,hv.kept (Kp.refl _ _) (fun _ _ h=>h) hK⟩⟩
theorem OwT.kept (h:OwT w base et e X K A n c) {row:Option Nat} (hg:w.grownBy w' row) (hr:∀ k,row=some k->X k/\k<base):OwT w' base et e X K A n c:=by
 obtain ⟨xs,ho,hx⟩:=h;have hne:∀ k,row=some k->(Value.slice A n c).ownBlock≠some k:=fun k hk h'=>by have:=(an_ ho h').1;have:=(hr k hk).2;omega
 refine ⟨xs,ho.kept hg (by cases row with | none=>cases (Value.slice A n c).ownBlock <;> simp | some k=>exact .inr (hne k rfl)),fun k j t hk hj=>?_⟩;exact u3_
theorem OwT.below (h:OwT w base et e X K A n c) (hb:Below w w w'):OwT w' base et e X K A n c:=h.kept (cf_ hb none) (fun _ h=>by cases h)
theorem SlT.news (h:SlT w X K e A n c):∃ news:VL,news.length=n*e.length/\(A=none->n=0)/\(∀ ad,A=some ad->∀ (j:Nat) (u:Value),news[j]?=some u->w.cell? (ad.add j)=some u)/\(∀ u ∈ news,u.oneCell'=true) ∧
  ∀ k j t,k<n->e[j]?=some t->∃ u,news[k*e.length+j]?=some u/\VT w X K t u:=by
 rcases Nat.eq_zero_or_pos n with rfl | hn
 ·exact ⟨[],zk_,fun _=>rfl,fun ad _ j u hu=>by simp at hu,fun u hu=>by simp at hu,fun k j t hk=>absurd hk o_⟩
 cases A with
 | none=>exact absurd (h.nul rfl).1 o_
 | some ad =>
  obtain ⟨g,o,rfl,hg,hX,f,hf,ht⟩:=h.at_ _ rfl;have A3:∀ i,i<n*e.length->i / e.length<n/\i % e.length<e.length/\i / e.length*e.length+i % e.length=i:=fun i hi=>by
   have A1:0<e.length:=by rcases Nat.eq_zero_or_pos e.length with h0 | h0;(rw [h0] at hi;omega);exact h0
   exact ⟨Nat.div_lt_of_lt_mul (by rw [Nat.mul_comm];exact hi),Nat.mod_lt _ A1,Nat.div_add_mod' i e.length⟩
  refine ⟨(List.range (n*e.length)).map fun i=>f (i / e.length) (i % e.length),zk_,x_,fun ad A0 j u hu=>?_,fun u hu=>?_,fun k j t hk hj=>?_⟩
  ·injection A0 with A0;subst A0;have hj:j<n*e.length:=by have:=(e_ hu).1;simpa using this
   simp [hj] at hu;subst hu;obtain ⟨h1,h2,h3⟩:=A3 j hj;rw [Addr.add_lit];have:=hf (j / e.length) (j % e.length) _ h1 (ge_ h2)
   rwa [h3] at this
  ·obtain ⟨i,hi,rfl⟩:=List.mem_map.1 hu;have hi:=List.mem_range.1 hi;obtain ⟨h1,h2,_⟩:=A3 i hi;exact (ht _ _ _ h1 (ge_ h2)).one
  have A2:j<e.length:=(e_ hj).1;have A4:k*e.length+j<n*e.length:=by
   exact tu_
  have hd:(k*e.length+j) / e.length=k:=by rw [Nat.mul_comm,Nat.mul_add_div o_,Nat.div_eq_of_lt A2];omega
  have hm:(k*e.length+j) % e.length=j:=by rw [Nat.mul_comm,Nat.mul_add_mod,Nat.mod_eq_of_lt A2]
  exact ⟨f k j,by simp [A4,hd,hm],ht k j t hk hj⟩
theorem SlT.take {X:NP} {w:World} {K n c k:Nat} {e:List CT} {A:OA} (h:SlT w X K e A n c) (hk:k<=n) (c':Nat) (hc:k<=c') (hm:c'<=c):SlT w X K e A k c':=by
 refine ⟨Nat.le_trans hk h.le,hc,by have:=h.max;omega,fun hA=>?_,fun ad hA=>?_⟩
 ·have:=h.nul hA;omega
 obtain ⟨g,o,e1,hg,hX,f,hf,ht⟩:=h.at_ ad hA;exact ⟨g,o,e1,hg,hX,f,fun q j t hq hj=>hf q j t o_ hj,fun q j t hq hj=>ht q j t o_ hj⟩
theorem SlT.drop {X:NP} {w:World} {K n c k:Nat} {e:List CT} {A:OA} (h:SlT w X K e A n c) (hk:k<=n):SlT w X K e (cutA A c k e.length) (n - k) (c - k):=by
 unfold cutA;split
 ·rename_i hck
  have A0:n - k=0:=by have:=h.cap;omega
  rw [A0];exact h.take (Nat.zero_le _) _ (Nat.zero_le _) o_
 refine ⟨by have:=h.le;omega,by have:=h.cap;omega,by have:=h.max;omega,fun hA=>?_,fun ad hA=>?_⟩
 ·cases A with
  | none=>have:=h.nul rfl;omega
  | some ad=>cases hA
 cases A with
 | none=>cases hA
 | some bd =>
  obtain ⟨g,o,rfl,hg,hX,f,hf,ht⟩:=h.at_ bd rfl;injection hA with hA;subst hA;refine ⟨g,o+k*e.length,by show Addr.add _ _=_;rw [Addr.add_lit],hg,hX,fun q j=>f (k+q) j,fun q j t hq hj=>?_,fun q j t hq hj=>ht (k+q) j t o_ hj⟩;have:=hf (k+q) j t o_ hj;rw [Nat.add_mul] at this;rw [show o+k*e.length+(q*e.length+j)=o+(k*e.length+q*e.length+j) from by omega];exact this
theorem OwT.set {X:NP} {w:World} {K base n c g k j:Nat} {et:TypeId} {e:List CT} {t:CT} {u:Value} (h:OwT w base et e X K (some (a_ g)) n c) (hk:k<n) (hj:e[j]?=some t) (hv:VT w (Wi X (some g)) K t u) (p:Addr) (hp:p=⟨g,k*e.length+j,none⟩):OwT (w.setCell p u) base et e X K (some (a_ g)) n c:=by
 subst hp;obtain ⟨xs,ho,hx⟩:=h;have A3:j<e.length:=(e_ hj).1;have A0:Kp (Wi X (some g)) w (w.setCell ⟨g,k*e.length+j,none⟩ u):=(Kp.refl _ w).setCell (.inl (.inr rfl)) u;refine ⟨xs.set (k*e.length+j) u,(ho.stored _ _).1,fun q i s hq hi=>?_⟩;have A2:i<e.length:=(e_ hi).1;obtain ⟨v,A1,A4⟩:=hx q i s hq hi;by_cases hsame:k=q/\j=i
 ·obtain ⟨rfl,rfl⟩:=hsame;rw [hj] at hi;injection hi with hi;subst hi;exact ⟨u,by rw [gs_,if_pos rfl,if_pos (e_ A1).1],hv.up A0 (l_)⟩
 have hne:k*e.length+j≠q*e.length+i:=slot_ne A3 A2 (by
  by_cases h1:k=q
  ·exact .inr (fun h2=>hsame ⟨h1,h2⟩)
  exact .inl h1)
 exact ⟨v,by rw [gs_,if_neg hne];exact A1,A4.up A0 (l_)⟩
theorem eu_ {P:Program} {t e:TypeId} {i:TypeInfo} (hu:P.underlying t=some (.slice e)) (hi:P.info? e=some i) {A:OA} {n c k:Nat} (hk:k<=c) (w:World) :
  (Instr.slice t (.slice A n c) none (some (i_ k)) (some (i_ k))).run P w=.ok (.slice A k k) w:=by
 have hm:A.map (·.add 0)=A:=by cases A <;> simp [Addr.add]
 simp [Instr.slice,run_underlying hu,Instr.sliceBounds,Instr.sliceBound,asIntOf,hk,sizeOf,typeInfo,hi,hm];try (intro h;subst h;cases A <;> simp [Addr.add])
theorem SlT.lit1 {X:NP} {w:World} {K:Nat} {e:List CT} {vs:VL} (hv:VTs w X K e vs) (et:TypeId) (hX:¬X w) (hK:1<=K):SlT (w.alloc (.cells vs.toArray et)) X K e (some (a_ w)) 1 1:=by
 have hk:Kp X w (w.alloc (.cells vs.toArray et)):=(Kp.refl X w).alloc _;refine ⟨hK,l_,o_,x_,fun ad A0=>?_⟩;injection A0 with A0;subst A0;refine ⟨_,_,rfl,zk_,hX,fun _ j=>vs.getD j undef,fun k j t A1 hj=>?_,fun k j t A1 hj=>?_⟩
 ·obtain rfl:k=0:=by omega
  obtain ⟨u,hu,_⟩:=hv.2 j t hj;rw [ar_ _ _ _ _ _ rfl];simp [hu]
 obtain ⟨u,hu,A2⟩:=hv.2 j t hj;show VT _ X K t (vs.getD j undef)
 rw [List.getD_eq_getElem?_getD,hu];exact A2.up hk (l_)
theorem eg_ {X:NP} {w:World} {K:Nat} (a b:Int) (r:Bool) (n:Int):VTs w X K [.num,.num,.tru,.num] [i_ a,i_ b,.bool r,i_ n]:=VTs.cons (.num _) (VTs.cons (.num _) (VTs.cons (.tru _) (VTs.cons (.num _) VTs.nil)))
theorem own_append {xs news:VL} {A':OA} {c':Nat} (h:OwT w base et e X K A n c) (hxs:w.ownsRow base et e.length (.slice A n c) n xs/\∀ k j t,k<n->e[j]?=some t->∃ u,xs[k*e.length+j]?=some u/\VT w (Wi X (Value.slice A n c).ownBlock) K t u)
  (hl:news.length=m*e.length) (hn:∀ k j t,k<m->e[j]?=some t->∃ u,news[k*e.length+j]?=some u/\VT w (Wi X (Value.slice A n c).ownBlock) K t u)
  (hX:∀ k,X k->k<w) (ho:w'.ownsRow base et e.length (.slice A' (n+m) c') (n+m) (xs ++ news)) (hg:w.grownBy w' (Value.slice A n c).ownBlock) (hloc:∀ g,(Value.slice A' (n+m) c').ownBlock=some g->(Value.slice A n c).ownBlock=some g\/g=w) :
  OwT w' base et e X K A' (n+m) c':=by
 have A0:xs.length=n*e.length:=hxs.1.1;have up:∀ {t:CT} {u:Value},VT w (Wi X (Value.slice A n c).ownBlock) K t u->VT w' (Wi X (Value.slice A' (n+m) c').ownBlock) K t u:=fun hv =>
  hv.kept ((Kp.refl _ w).grown hg (fun k hk=>.inl (.inr hk))) (fun k hk A1 hin=>by
   rcases hin with hin | hin
   ·exact A1 (.inl hin)
   rcases hloc k hin with h1 | h1
   ·exact A1 (.inr h1)
   omega) (l_)
 refine ⟨xs ++ news,ho,fun k j t hk hj=>?_⟩;have A2:j<e.length:=(e_ hj).1;by_cases hkn:k<n
 ·obtain ⟨u,hu,hv⟩:=hxs.2 k j t hkn hj;exact ⟨u,vi_,up hv⟩
 obtain ⟨u,hu,hv⟩:=hn (k - n) j t o_ hj;refine ⟨u,?_,up hv⟩;have e1:k*e.length=n*e.length+(k - n)*e.length:=by rw [<-Nat.add_mul];congr 1;omega
 rw [List.getElem?_append_right z9_,A0,show k*e.length+j - n*e.length=(k - n)*e.length+j from by omega];exact hu
end
section
variable {P:Program} {w:World} {ops:Array Oper} {rest:List Oper} {o:Oper} {a:Act} {Q:Exit->Act->World->Prop}
theorem ap_ (hgd:o.guard=none) (s x:Operand) (t:TypeId) (ho:o.op=.call { callee:=.builtin .append,args:=#[s,x],argTypes:=#[t,t] })
  (base:Nat) (et:TypeId) (i:TypeInfo) (z:Value) (bytes:Nat) (e:List CT) (X:NP) (K:Nat) (ht:P.underlying t=some (.slice et)) (hi:P.info? et=some i) (hz:i.zero=some z) (hsize:i.size=e.length) (hby:i.bytes=bytes) (hzs:z.cells.size=e.length) (hsz:0<e.length)
  (A:OA) (n c:Nat) (hs:a.eval s=.slice A n c) (hown:OwT w base et e X K A n c) (B:OA) (m d:Nat) (hx:a.eval x=.slice B m d) (hsrc:SlT w (Wi X (Value.slice A n c).ownBlock) K e B m d)
  (hX:∀ k,X k->k<w) (h63:n+m<=maxLen) (hbytes:(n+m)*bytes<=140737488355328) (hbase:base<=w)
  (h:∀ A' c' w',OwT w' base et e X K A' (n+m) c'->w.grownBy w' (Value.slice A n c).ownBlock->(∀ g,(Value.slice A' (n+m) c').ownBlock=some g->(Value.slice A n c).ownBlock=some g\/g=w)->wpList P ops Q rest (a.put o.dst (.slice A' (n+m) c')) w'):wpList P ops Q (o :: rest) a w:=by
 obtain ⟨xs,h1,h2⟩:=hown;obtain ⟨news,n1,n2,n3,n4,n5⟩:=hsrc.news;exact ca_ hgd s x t ho base et i z e.length bytes ht hi hz hsize hby hzs hsz _ n xs hs h1 B m d news hx n2 n1 n3 n4 h63 hbytes hbase (fun A' c' w' g1 g2 g3=>h A' c' w' (own_append ⟨xs,h1,h2⟩ ⟨h1,h2⟩ n1 n5 hX g1 g2 g3) g2 g3)
theorem bt_ {K0:Act->World->Prop} {E:Prop} (hgd:o.guard=none) (s x:Operand) (t:TypeId) (ho:o.op=.call { callee:=.builtin .append,args:=#[s,x],argTypes:=#[t,t] })
  (base:Nat) (et:TypeId) (i:TypeInfo) (z:Value) (bytes:Nat) (e:List CT) (X:NP) (K:Nat) (ht:P.underlying t=some (.slice et)) (hi:P.info? et=some i) (hz:i.zero=some z) (hsize:i.size=e.length) (hby:i.bytes=bytes) (hzs:z.cells.size=e.length) (hsz:0<e.length)
  (A:OA) (n c:Nat) (hs:a.eval s=.slice A n c) (hown:OwT w base et e X K A n c) (B:OA) (m d:Nat) (hx:a.eval x=.slice B m d) (hsrc:SlT w (Wi X (Value.slice A n c).ownBlock) K e B m d)
  (hX:∀ k,X k->k<w) (h63:n+m<=maxLen) (hbytes:(n+m)*bytes<=140737488355328) (hbase:base<=w)
  (h:∀ A' c' w',OwT w' base et e X K A' (n+m) c'->w.grownBy w' (Value.slice A n c).ownBlock->(∀ g,(Value.slice A' (n+m) c').ownBlock=some g->(Value.slice A n c).ownBlock=some g\/g=w)->K0 (a.put o.dst (.slice A' (n+m) c')) w') :
  if Region.wanted o (yielded ops a.tmps)=true then Oper.wp P o a w K0 Q else E:=by
 obtain ⟨xs,h1,h2⟩:=hown;obtain ⟨news,n1,n2,n3,n4,n5⟩:=hsrc.news;exact bl_ hgd s x t ho base et i z e.length bytes ht hi hz hsize hby hzs hsz _ n xs hs h1 B m d news hx n2 n1 n3 n4 h63 hbytes hbase (fun A' c' w' g1 g2 g3=>h A' c' w' (own_append ⟨xs,h1,h2⟩ ⟨h1,h2⟩ n1 n5 hX g1 g2 g3) g2 g3)
theorem run_append_full {P:Program} (w:World) (t ty:TypeId) (et:TypeId) (i:TypeInfo) (z:Value) (bytes:Nat) (e:List CT) (X:NP) (K:Nat) (ht:P.underlying t=some (.slice et)) (hi:P.info? et=some i) (hz:i.zero=some z) (hsize:i.size=e.length) (hby:i.bytes=bytes) (hzs:z.cells.size=e.length) (hsz:0<e.length)
  (A:OA) (n c:Nat) (hdst:SlT w X K e A n c) (B:OA) (m d:Nat) (hsrc:SlT w X K e B m d) (hm:0<m) (hfull:c<n+m) (hX:∀ k,X k->k<w) (h63:n+m<=maxLen) (hbytes:(n+m)*bytes<=140737488355328) :
  ∃ A' c' w',(Builtin.append_ #[t,t] ty #[.slice A n c,.slice B m d]).run P w=.ok (.slice A' (n+m) c') w'/\OwT w' w et e X K A' (n+m) c'/\Below w w w':=by
 obtain ⟨A0,o1,o2,o3,o4,o5⟩:=hdst.news;obtain ⟨news,n1,n2,n3,n4,n5⟩:=hsrc.news;cases B with
 | none=>exact absurd (n2 rfl) o_
 | some bd =>
  have A2:∀ v' w',w'.ownsRow w et e.length v' (n+m) (A0 ++ news)->w.grownBy w' none->∃ A' c',v'=.slice A' (n+m) c'/\OwT w' w et e X K A' (n+m) c'/\Below w w w':=fun v' w' r1 r2=>by
   obtain ⟨A',c',rfl⟩:=own_form r1 o_;have hb:Below w w w':=al_ r2 (l_) (fun k hk=>by cases hk);refine ⟨A',c',rfl,⟨A0 ++ news,r1,fun k j t hk hj=>?_⟩,hb⟩;have up:∀ {t:CT} {u:Value},VT w X K t u->VT w' (Wi X (Value.slice A' (n+m) c').ownBlock) K t u:=fun hv=>hv.kept (Kp.of_below hb) (fun k hk A1 hin=>by
    rcases hin with hin | hin
    ·exact A1 hin
    have:=(an_ r1 hin).1;omega) (l_)
   by_cases hkn:k<n
   ·obtain ⟨u,hu,hv⟩:=o5 k j t hkn hj;exact ⟨u,vi_,up hv⟩
   obtain ⟨u,hu,hv⟩:=n5 (k - n) j t o_ hj;refine ⟨u,?_,up hv⟩;have e1:k*e.length=n*e.length+(k - n)*e.length:=by rw [<-Nat.add_mul];congr 1;omega
   rw [List.getElem?_append_right (by rw [o1];omega),o1,show k*e.length+j - n*e.length=(k - n)*e.length+j from by omega];exact hu
  cases A with
  | some ad =>
   obtain ⟨v',w',hr,r1,r2⟩:=run_append_arg_grows (P:=P) w t ty et i z e.length bytes ht hi hz hsize hby hzs hsz ad n c A0 o1 (o3 ad rfl) bd m d news n1 (n3 bd rfl) hfull h63 hbytes;obtain ⟨A',c',rfl,h1,h2⟩:=A2 v' w' r1 r2;exact ⟨A',c',w',hr,h1,h2⟩
  | none =>
   obtain ⟨rfl,rfl⟩:=hdst.nul rfl;obtain rfl:A0=[]:=List.eq_nil_of_length_eq_zero (by simpa using o1);obtain ⟨v',w',hr,r1,r2,_⟩:=run_append_own (P:=P) w w t ty et i z e.length bytes ht hi hz hsize hby hzs hsz (.slice none 0 0) 0 [] (World.ownsRow_nil w _ et e.length) bd m d news n1 (n3 bd rfl) n4 h63 hbytes (l_);obtain ⟨A',c',rfl,h1,h2⟩:=A2 v' w' r1 r2;exact ⟨A',c',w',hr,h1,h2⟩
theorem bq_ {K0:Act->World->Prop} {E:Prop} (hgd:o.guard=none) (s x:Operand) (t:TypeId) (ho:o.op=.call { callee:=.builtin .append,args:=#[s,x],argTypes:=#[t,t] })
  (et:TypeId) (i:TypeInfo) (z:Value) (bytes:Nat) (e:List CT) (X:NP) (K:Nat) (ht:P.underlying t=some (.slice et)) (hi:P.info? et=some i) (hz:i.zero=some z) (hsize:i.size=e.length) (hby:i.bytes=bytes) (hzs:z.cells.size=e.length) (hsz:0<e.length)
  (A:OA) (n c:Nat) (hs:a.eval s=.slice A n c) (hdst:SlT w X K e A n c) (B:OA) (m d:Nat) (hx:a.eval x=.slice B m d) (hsrc:SlT w X K e B m d) (hm:0<m) (hfull:c<n+m) (hX:∀ k,X k->k<w) (h63:n+m<=maxLen) (hbytes:(n+m)*bytes<=140737488355328)
  (h:∀ A' c' w',OwT w' w et e X K A' (n+m) c'->Below w w w'->K0 (a.put o.dst (.slice A' (n+m) c')) w'):if Region.wanted o (yielded ops a.tmps)=true then Oper.wp P o a w K0 Q else E:=by
 obtain ⟨A',c',w',hr,h1,h2⟩:=run_append_full (P:=P) w t o.type et i z bytes e X K ht hi hz hsize hby hzs hsz A n c hdst B m d hsrc hm hfull hX h63 hbytes;have hw:Region.wanted o (yielded ops a.tmps)=true:=by simp [Region.wanted,hgd]
 exact ty_
end
section
variable {P:Program} {ops:Array Oper} {Q:Exit->Act->World->Prop} {X:XE} {Inv:World->Prop} {ks:Nat->SK X} {a0 a:Act} {w w':World} {listed:Array Bool}
theorem list_kz {n:Nat} {ol:Oper} (hw:wfOps ops a0.tmps.size=true) (hn:ops.size=n+1) (hol:ops[n]?=some ol) (hs:StepZ P ops Q Inv ks a0 n) (hl:LastZ P ops Q Inv ks a0 n ol) :
  ∀ (rest:List Oper) (k:Nat) (listed:Array Bool) (a:Act) (w:World),ops.toList.drop k=rest->k<=n->listed.size=ops.size->(∀ j,j<ops.size->(listed.getD j true=true↔j<k))->SI ops ks Inv a0 listed a w->wpList P ops Q rest a w:=by
 intro rest
 induction rest with
 | nil =>
  intro k listed a w hd hk hz A7 h;have:=congrArg List.length hd;simp at this;omega
 | cons o rest ih =>
  intro k listed a w hd A6 hz A4 h;have ho:ops[k]?=some o:=by
   have:(ops.toList.drop k)[0]?=some o:=by rw [hd];rfl
   rw [List.getElem?_drop] at this
   simpa using this
  have A8:=(Array.getElem?_eq_some_iff.1 ho).1;obtain ⟨hg,A0,_⟩:=wf_at hw ho;refine wpList_plain hg (fun K hK=>?_);by_cases e:k=n
  ·subst e;rw [hol] at ho;injection ho with ho;subst ho;have A2:rest=[]:=by
    have:=congrArg List.length hd;simp at this;exact List.eq_nil_of_length_eq_zero o_
   subst A2;exact hl a w h.inv h.sz h.df h.out (fun j oj t hj A1 ht=>h.ok j oj t ((A4 j (Array.getElem?_eq_some_iff.1 A1).1).2 vn_) A1 ht) K (fun a' w' hq=>hK _ _ hq)
  refine hs k o e ho a w h.inv h.out (fun j hj oj t A1 ht=>h.ok j oj t ?_ A1 ht) K (fun v w' hk he A5 hv=>hK _ _ ?_)
  ·rw [List.any_eq_true] at hj;obtain ⟨e',he,A3⟩:=hj;rw [<-Array.mem_def] at he;have A3:e'.on=j:=(by simpa using A3:Region.binds .any e'=true/\e'.on=j).2;subst A3;exact (A4 _ (by have:=A0 e' he;omega)).2 (A0 e' he)
  refine ih (k+1) (listed.setIfInBounds k true) _ _ ?_ o_ ys_ (fun j hj=>?_) (h.step hw ho hk he A5 hv)
  ·rw [<-List.tail_drop,hd];rfl
  rw [Array.getD_eq_getD_getElem?,Array.getElem?_setIfInBounds];by_cases e:k=j
  ·subst e;rw [if_pos rfl,if_pos o_];simp
  rw [if_neg e,<-Array.getD_eq_getD_getElem?,A4 j hj];omega
theorem region_kzl {id:Nat} (n:Nat) {ol:Oper} (hw:wfOps ops a0.tmps.size=true) (hn:ops.size=n+1) (hol:ops[n]?=some ol) (h0:Inv w) (hs:StepZ P ops Q Inv ks a0 n) (hl:LastZ P ops Q Inv ks a0 n ol):(Code.region id ops false).wp P Q a0 w:=by
 refine wp_region_list (list_kz hw hn hol hs hl ops.toList 0 (Array.replicate ops.size false) a0 w rfl o_ t_ (fun j hj=>?_) ⟨h0,rfl,rfl,fun _ _=>rfl,fun i o t A0 ho _=>?_⟩)
 ·rw [Array.getD_eq_getD_getElem?,Array.getElem?_replicate,if_pos hj];simp
 exfalso;have A1:=(Array.getElem?_eq_some_iff.1 ho).1;rw [Array.getD_eq_getD_getElem?,Array.getElem?_replicate,if_pos A1] at A0;cases A0
end
def valT:List CT:=[.tru,.num]
def objT:List CT:=[.num,.sl valT]
def aq_:List CT:=[.num,.num,.tru,.num]
def bn_:List CT:=[.num,.num,.num,.tru,.num]
def actT:List CT:=[.tru,.num,.num]
def regsT:List CT:=[.tru,.num,.tru,.num,.tru,.num,.tru,.num,.tru,.num,.tru,.num,.tru,.num,.tru,.num,.tru,.num,.tru,.num,.tru,.num,.tru,.num,.tru,.num,.tru,.num,.tru,.num,.tru,.num]
def cpuT:List CT:=.num :: regsT
def effT:List CT:=.num :: cpuT ++ [.sl aq_,.sl aq_,.sl objT,.sl bn_,.sl actT,.num,.tru,.tru,.num]
def af_:List CT:=[.num,.num,.tru] ++ cpuT ++ [.sl aq_,.sl aq_,.sl aq_,.sl objT,.sl bn_,.sl actT,.num,.num,.tru,.tru,.num,.num]
def comT:List CT:=[.sl objT,.num,.num,.sl actT,.tru,.tru,.tru,.num,.num,.num]
section
variable {X:NP} {w:World} {K:Nat}
theorem VTs.val {vs:VL} (h:VTs w X K valT vs):∃ x:Val,vs=x.cells:=by
 obtain ⟨a,r1,rfl,ha,h1⟩:=h.head;obtain ⟨b,r2,rfl,hb,h2⟩:=h1.head;obtain ⟨x,rfl⟩:=ha.bool;obtain ⟨y,rfl⟩:=hb.int;rw [h2.end];exact ⟨⟨x,y⟩,rfl⟩
theorem SlT.vals {A:OA} {n c:Nat} (h:SlT w X K valT A n c):∃ s:List Val,Sl w w 2 Val.cells A n s:=by
 obtain ⟨l,hl,_⟩:=h.list Val.cells (fun _=>True) (fun vs hv=>by obtain ⟨x,rfl⟩:=hv.val;exact ⟨x,rfl,trivial⟩);exact ⟨l,hl⟩
theorem VTs.obj {vs:VL} (h:VTs w X K objT vs):∃ x:Ob,vs=x.cells/\SlT w X K valT x.A x.n x.c/\Sl w w 2 Val.cells x.A x.n x.s:=by
 obtain ⟨a,r1,rfl,ha,h1⟩:=h.head;obtain ⟨b,r2,rfl,hb,h2⟩:=h1.head;obtain ⟨x,rfl⟩:=ha.int;obtain ⟨A,n,c,rfl,hs⟩:=hb.slice;rw [h2.end];obtain ⟨s,hS⟩:=hs.vals;exact ⟨⟨x,A,n,c,s⟩,rfl,hs,hS⟩
theorem SlT.hp {A:OA} {n c:Nat} (h:SlT w X K objT A n c) (hK:K<=8796093021952):∃ l:List Ob,Hp w w A n l/\∀ o ∈ l,SlT w X K valT o.A o.n o.c:=by
 obtain ⟨l,hl,hP⟩:=h.list Ob.cells (fun o=>(Sl w w 2 Val.cells o.A o.n o.s/\o.n<=8796093021952)/\SlT w X K valT o.A o.n o.c) (fun vs hv=>by
  obtain ⟨x,rfl,h1,h2⟩:=hv.obj
  exact ⟨x,rfl,⟨h2,Nat.le_trans h1.le hK⟩,h1⟩)
 exact ⟨l,⟨hl,fun o ho=>(hP o ho).1⟩,fun o ho=>(hP o ho).2⟩
theorem vts_val (x:Val):VTs w X K valT x.cells:=(VTs.cons (.tru _) (VTs.cons (.num _) VTs.nil))
theorem vts_ob {x:Ob} (h:SlT w X K valT x.A x.n x.c):VTs w X K objT x.cells:=VTs.cons (.num _) (VTs.cons h.vt VTs.nil)
def Form (A:OA) (n c z:Nat):Prop:=n<=c/\c<=9223372036854775807/\(A=none->n=0/\c=0)/\∀ ad,A=some ad->∃ g o,ad=(f_ g o)/\g<z
theorem form_own {base sz:Nat} {et:TypeId} {A:OA} {n c:Nat} {xs:VL} (ho:w.ownsRow base et sz (.slice A n c) n xs):Form A n c w:=by
 refine ⟨(ck_ ho).1,own_cap ho,fun hA=>⟨(own_src ho).1 hA,(ck_ ho).2 hA⟩,fun ad hA=>?_⟩;subst hA;rcases ho.2 with ⟨h',_⟩ | ⟨g,cap,cur,h',hbg,hg,_⟩
 ·cases h'
 injection h' with h1 _ _;injection h1 with h1;subst h1;refine ⟨g,0,rfl,?_⟩;rcases Nat.lt_or_ge g w with h2 | h2
 ·exact h2
 rw [Array.getElem?_eq_none h2] at hg;cases hg
theorem Form.mono {A:OA} {n c z z':Nat} (h:Form A n c z) (hz:z<=z'):Form A n c z':=⟨h.1,h.2.1,h.2.2.1,fun ad hA=>by obtain ⟨g,o,e,hg⟩:=h.2.2.2 ad hA;exact ⟨g,o,e,o_⟩⟩
theorem SlT.of_sl {α:Type} {e:List CT} {cells:α->VL} {B:Nat} {A:OA} {n c:Nat} {l:List α} (h:Sl w B e.length cells A n l) (hF:Form A n c w) (hX:∀ ad,A=some ad->¬X ad.block) (hn:n<=K) (hv:∀ x ∈ l,VTs w X K e (cells x)):SlT w X K e A n c:=by
 refine ⟨hn,hF.1,hF.2.1,hF.2.2.1,fun ad hA=>?_⟩;obtain ⟨g,o,rfl,hg⟩:=hF.2.2.2 ad hA;subst hA;refine ⟨g,o,rfl,hg,hX _ rfl,fun k j=>((l[k]?).bind fun x=>(cells x)[j]?).getD undef,fun k j t hk hj=>?_,fun k j t hk hj=>?_⟩
 ·obtain ⟨ab,ao,e1,A1,hc⟩:=h.at_ o_;injection e1 with e1;injection e1 with e1 e2;subst e1 e2;have hx:=ge_ (l:=l) (i:=k) (by rw [h.len];exact hk);obtain ⟨u,hu,_⟩:=(hv _ (List.mem_of_getElem? hx)).2 j t hj;have:=hc k _ hx j u hu;show _=some (((l[k]?).bind fun x=>(cells x)[j]?).getD undef)
  rw [this,hx];simp [hu]
 have hx:=ge_ (l:=l) (i:=k) (by rw [h.len];exact hk);obtain ⟨u,hu,A0⟩:=(hv _ (List.mem_of_getElem? hx)).2 j t hj;show VT w X K t (((l[k]?).bind fun x=>(cells x)[j]?).getD undef)
 rw [hx];simp [hu];exact A0
theorem SlT.of_vals {B:Nat} {A:OA} {n c:Nat} {s:List Val} (h:Sl w B 2 Val.cells A n s) (hF:Form A n c w) (hX:∀ ad,A=some ad->¬X ad.block) (hn:n<=K):SlT w X K valT A n c :=
 SlT.of_sl (e:=valT) h hF hX hn (fun x _=>vts_val x)
def RH (X:NP) (K:Nat) (e:Ending) (w:World):Prop:=∃ (A:OA) (n c:Nat),e=.returned (.agg #[.slice A n c])/\Hid (SlT w X K objT A n c)
def RHB (X:NP) (K:Nat) (e:Ending) (w:World):Prop:=∃ (A:OA) (n c:Nat) (b:Bool),e=.returned (.tuple #[.agg #[.slice A n c],.bool b])/\Hid (SlT w X K objT A n c)
end
end Go.Proofs.YtfolidlmgfhkiaaGreat
namespace Go.Proofs.YtfolidlmgfhkiaaGreat
open Go.RowKit Go.Proofs.Tryz
theorem read_any (A:OA) (n c:Nat) (l:List Ob) (id f:Int) (w:World) (hs:Hp w w A n l) (hn:n<=9000000000000) :
  Calls prog 93 #[.agg #[.slice A n c],i_ id,i_ f] w fun e w'=>e=.returned (.tuple #[.agg #[.bool (readD id f (l.map Ob.po)).ref,i_ (readD id f (l.map Ob.po)).n],.bool (readB id f (l.map Ob.po))])/\Below w w w':=by
 have HO:=q_ hs.obs;obtain ⟨w2,A0⟩:=ex_ ((w.alloc (.cells #[.slice A n c] 35)).alloc (.cells #[.bool false,i_ 0] 38));have A7:Below w w w2:=by rw [A0];exact (bel (b_))
 have Aj:(w2:Nat)=w+2:=by rw [A0];simp
 have HC:=h_ (w2.cell? (a_ w)=some (.slice A n c)) w4_;have Ab:=h_ (w2.cell? (a_ (w+1))=some (.bool false)) yn_;have Ac:=h_ (w2.cell? (f_ (w+1) 1)=some (i_ 0)) yn_;have HF:=h_ (∀ j,w2.frozen? (f_ (w+1) j)=false) (fun j=>by rw [A0,bw_ _ _ _ _ _ t_]);have Ad:=q_ (hs.sl.up A7);go_enter func93,ntmps93;go_wp2_with fail;rw [<-A0];have HW:=q_ A0;clear A0;refine (index_any A n c l id w2 Ad.o hn).mono ?_;rintro e w3 ⟨rfl,A5⟩;have e0:w3.cell? (a_ w)=some (.slice A n c):=(belc A5 o_).trans HC.o;have e1:w3.cell? (a_ (w+1))=some (.bool false):=(belc A5 o_).trans Ab.o;have e2:w3.cell? (f_ (w+1) 1)=some (i_ 0):=(belc A5 o_).trans Ac.o;have f0:w3.frozen? (a_ (w+1))=false:=(belf A5 o_).trans (HF.o 0);have f1:w3.frozen? (f_ (w+1) 1)=false:=(belf A5 o_).trans (HF.o 1);have A3:Below w w w3:=A7.trans (A5.mono A7.size);rcases ek_ id (l.map Ob.po) with ⟨hi,_⟩ | ⟨i,x,hi,hx,_,_⟩
 ·obtain ⟨r1,r2⟩:=read_no (f:=f) hi;have A1:=q_ r1;have A2:=q_ r2;have HI:=h_ (idxI id (l.map Ob.po)=-1) y0_;clear r1 r2 hi;rw [HI.o];go_wp2;refine bodyPost_ret (v:=.tuple #[.agg #[.bool false,i_ 0],.bool false]) yw_ rfl ?_;exact ⟨y1_,(bel A3)⟩
 obtain ⟨o,ho,rfl⟩:=po_at' hx;have hin:i<n:=by rw [<-hs.sl.len];exact (e_ ho).1
 obtain ⟨o1,o2⟩:=HO.o o (List.mem_of_getElem? ho);obtain ⟨ab,ao,rfl,Ag,Aa⟩:=hs.sl.at_ o_;have c1:w3.cell? ⟨ab,ao+i*2+1,none⟩=some (.slice o.A o.n o.c):=(belc A3 Ag).trans (Aa i o ho 1 _ rfl);have HI:=h_ (idxI id (l.map Ob.po)=i) y0_;have HX:=q_ hx;have A8:=q_ hi;have A9:=q_ o1.len;have Ah:¬(i:Int)<0:=by omega
 clear Aa hx ho hi;rw [HI.o];by_cases hf0:f<0
 ·obtain ⟨r1,r2⟩:=read_neg (id:=id) (l:=l.map Ob.po) hf0;exact uy_
 by_cases hfn:(o.n:Int)<=f
 ·obtain ⟨r1,r2⟩:=read_far A8.o HX.o (f:=f) (by show (o.s.length:Int)<=f;rw [A9.o];exact hfn);exact uy_
 obtain ⟨j,rfl⟩:∃ j:Nat,f=j:=⟨f.toNat,o_⟩;have Af:j<o.n:=by omega
 have Ai:(j:Int)<(o.n:Int):=by omega
 obtain ⟨v,hv⟩:∃ v,o.s[j]?=some v:=⟨_,ge_ (by rw [A9.o];exact Af)⟩;obtain ⟨fb,fo,Ae,A6,A4⟩:=o1.at_ o_;rw [Ae] at c1;have d0:w3.cell? ⟨fb,fo+j*2,none⟩=some (.bool v.ref):=(belc A3 A6).trans (A4 j v hv 0 _ rfl);have d1:w3.cell? ⟨fb,fo+j*2+1,none⟩=some (i_ v.n):=(belc A3 A6).trans (A4 j v hv 1 _ rfl);obtain ⟨r1,r2⟩:=read_at A8.o HX.o (j:=j) hv;have A1:=q_ r1;have A2:=q_ r2;have HV:=q_ hv;clear r1 r2 hv A4
 go_wp2;refine bodyPost_ret (v:=.tuple #[.agg #[.bool v.ref,i_ v.n],.bool true]) yw_ rfl ?_;exact ⟨y1_,(bel A3)⟩
theorem refread_any (A:OA) (n c:Nat) (l:List Ob) (id f:Int) (w:World) (hs:Hp w w A n l) (hn:n<=9000000000000) :
  Calls prog 17 #[.agg #[.slice A n c],i_ id,i_ f] w fun e w'=>e=.returned (.tuple #[.agg #[.bool (readD id f (l.map Ob.po)).ref,i_ (readD id f (l.map Ob.po)).n],.bool (readB id f (l.map Ob.po))])/\Below w w w':=by
 have HO:=q_ hs.obs;obtain ⟨w2,A0⟩:=ex_ ((w.alloc (.cells #[.slice A n c] 35)).alloc (.cells #[.bool false,i_ 0] 38));have A7:Below w w w2:=by rw [A0];exact (bel (b_))
 have Aj:(w2:Nat)=w+2:=by rw [A0];simp
 have HC:=h_ (w2.cell? (a_ w)=some (.slice A n c)) w4_;have Ab:=h_ (w2.cell? (a_ (w+1))=some (.bool false)) yn_;have Ac:=h_ (w2.cell? (f_ (w+1) 1)=some (i_ 0)) yn_;have HF:=h_ (∀ j,w2.frozen? (f_ (w+1) j)=false) (fun j=>by rw [A0,bw_ _ _ _ _ _ t_]);have Ad:=q_ (hs.sl.up A7);go_enter func17,ntmps17;go_wp2_with fail;rw [<-A0];have HW:=q_ A0;clear A0;refine (refat_any A n c l id w2 Ad.o hn).mono ?_;rintro e w3 ⟨rfl,A5⟩;have e0:w3.cell? (a_ w)=some (.slice A n c):=(belc A5 o_).trans HC.o;have e1:w3.cell? (a_ (w+1))=some (.bool false):=(belc A5 o_).trans Ab.o;have e2:w3.cell? (f_ (w+1) 1)=some (i_ 0):=(belc A5 o_).trans Ac.o;have f0:w3.frozen? (a_ (w+1))=false:=(belf A5 o_).trans (HF.o 0);have f1:w3.frozen? (f_ (w+1) 1)=false:=(belf A5 o_).trans (HF.o 1);have A3:Below w w w3:=A7.trans (A5.mono A7.size);rcases ek_ id (l.map Ob.po) with ⟨hi,_⟩ | ⟨i,x,hi,hx,_,_⟩
 ·obtain ⟨r1,r2⟩:=read_no (f:=f) hi;have A1:=q_ r1;have A2:=q_ r2;have HI:=h_ (idxI id (l.map Ob.po)=-1) y0_;clear r1 r2 hi;rw [HI.o];go_wp2;refine bodyPost_ret (v:=.tuple #[.agg #[.bool false,i_ 0],.bool false]) yx_ rfl ?_;exact ⟨y1_,(bel A3)⟩
 obtain ⟨o,ho,rfl⟩:=po_at' hx;have hin:i<n:=by rw [<-hs.sl.len];exact (e_ ho).1
 obtain ⟨o1,o2⟩:=HO.o o (List.mem_of_getElem? ho);obtain ⟨ab,ao,rfl,Ag,Aa⟩:=hs.sl.at_ o_;have c1:w3.cell? ⟨ab,ao+i*2+1,none⟩=some (.slice o.A o.n o.c):=(belc A3 Ag).trans (Aa i o ho 1 _ rfl);have HI:=h_ (idxI id (l.map Ob.po)=i) y0_;have HX:=q_ hx;have A8:=q_ hi;have A9:=q_ o1.len;have Ah:¬(i:Int)<0:=by omega
 clear Aa hx ho hi;rw [HI.o];by_cases hf0:f<0
 ·obtain ⟨r1,r2⟩:=read_neg (id:=id) (l:=l.map Ob.po) hf0;exact ux_
 by_cases hfn:(o.n:Int)<=f
 ·obtain ⟨r1,r2⟩:=read_far A8.o HX.o (f:=f) (by show (o.s.length:Int)<=f;rw [A9.o];exact hfn);exact ux_
 obtain ⟨j,rfl⟩:∃ j:Nat,f=j:=⟨f.toNat,o_⟩;have Af:j<o.n:=by omega
 have Ai:(j:Int)<(o.n:Int):=by omega
 obtain ⟨v,hv⟩:∃ v,o.s[j]?=some v:=⟨_,ge_ (by rw [A9.o];exact Af)⟩;obtain ⟨fb,fo,Ae,A6,A4⟩:=o1.at_ o_;rw [Ae] at c1;have d0:w3.cell? ⟨fb,fo+j*2,none⟩=some (.bool v.ref):=(belc A3 A6).trans (A4 j v hv 0 _ rfl);have d1:w3.cell? ⟨fb,fo+j*2+1,none⟩=some (i_ v.n):=(belc A3 A6).trans (A4 j v hv 1 _ rfl);obtain ⟨r1,r2⟩:=read_at A8.o HX.o (j:=j) hv;have A1:=q_ r1;have A2:=q_ r2;have HV:=q_ hv;clear r1 r2 hv A4
 go_wp2;refine bodyPost_ret (v:=.tuple #[.agg #[.bool v.ref,i_ v.n],.bool true]) yx_ rfl ?_;exact ⟨y1_,(bel A3)⟩
end Go.Proofs.YtfolidlmgfhkiaaGreat
namespace Go.Proofs.YtfolidlmgfhkiaaGreat
open Go.RowKit
structure LV where
 b:Nat
 K:Nat->Nat
 ts:List CT
 ow:Nat->Option TypeId
def noOw:Nat->Option TypeId:=fun _=>none
structure Up (w:World) (Y:NP) (w':World) (Y':NP):Prop where
 kp:Kp Y w w'
 no:∀ k,k<w.heap.size->¬Y k->¬Y' k
section
variable {w w' w2:World} {Y Y' Y2:NP} {K K' n c:Nat} {t:CT} {v:Value} {A:OA} {e:List CT}
theorem Up.refl (w:World) (Y:NP):Up w Y w Y:=⟨Kp.refl _ _,fun _ _ h=>h⟩
theorem Up.trans (h:Up w Y w' Y') (h2:Up w' Y' w2 Y2):Up w Y w2 Y2 :=
 ⟨⟨h2.kp.os.trans h.kp.os,h2.kp.tape.trans h.kp.tape,h2.kp.output.trans h.kp.output,Nat.le_trans h.kp.size h2.kp.size,fun k hk hx=>(h2.kp.block k (lt_ hk h.kp.size) (h.no k hk hx)).trans (h.kp.block k hk hx)⟩,fun k hk hx=>h2.no k (lt_ hk h.kp.size) (h.no k hk hx)⟩
theorem Up.of_below (hb:Below w.heap.size w w'):Up w Y w' Y:=⟨.of_below hb,fun _ _ h=>h⟩
theorem Up.drew (h:Up w Y w' Y'):Up w Y w'.drew Y':=⟨h.kp.drew,h.no⟩
theorem Up.drewN (h:Up w Y w' Y') (m:Nat):Up w Y (w'.drewN m) Y':=⟨h.kp.drewN m,h.no⟩
theorem VT.go (h:VT w Y K t v) (u:Up w Y w' Y') (hK:K<=K'):VT w' Y' K' t v:=h.kept u.kp u.no hK
theorem VTs.go {ts:List CT} {vs:VL} (h:VTs w Y K ts vs) (u:Up w Y w' Y') (hK:K<=K'):VTs w' Y' K' ts vs:=h.kept u.kp u.no hK
theorem SlT.go (h:SlT w Y K e A n c) (u:Up w Y w' Y') (hK:K<=K'):SlT w' Y' K' e A n c:=h.kept u.kp u.no hK
theorem OwT.stay {base:Nat} {et:TypeId} (h:OwT w base et e Y K A n c) {row:Option Nat} (hg:w.grownBy w' row) (hr:∀ k,row=some k->Y k/\(Value.slice A n c).ownBlock≠some k):OwT w' base et e Y K A n c:=by
 obtain ⟨xs,ho,hx⟩:=h;refine ⟨xs,ho.kept hg (by cases row with | none=>cases (Value.slice A n c).ownBlock <;> simp | some k=>exact .inr (hr k rfl).2),fun k j t hk hj=>?_⟩;exact u3_
theorem OwT.sub {base:Nat} {et:TypeId} (h:OwT w base et e Y K A n c) (hY:∀ k,k<w.heap.size->Y' k->Y k\/(Value.slice A n c).ownBlock=some k) (hK:K<=K'):OwT w base et e Y' K' A n c:=by
 obtain ⟨xs,ho,hx⟩:=h;refine ⟨xs,ho,fun k j t hk hj=>?_⟩;obtain ⟨u,hu,hv⟩:=hx k j t hk hj;refine ⟨u,hu,hv.kept (Kp.refl _ w) (fun k hk hn hy=>hn ?_) hK⟩;rcases hy with hy | hy
 ·exact hY k hk hy
 exact .inr hy
theorem OwT.base_up {base base':Nat} {et:TypeId} (h:OwT w base et e Y K A n c) (hb:∀ g,(Value.slice A n c).ownBlock=some g->base'<=g):OwT w base' et e Y K A n c:=by
 obtain ⟨xs,ho,hx⟩:=h;refine ⟨xs,⟨ho.1,?_⟩,hx⟩;rcases ho.2 with h' | ⟨g,cap,cur,hv,hg,hr⟩
 ·exact .inl h'
 injection hv with h1 _ h3;subst h1 h3;exact .inr ⟨g,_,cur,rfl,hb g rfl,hr⟩
theorem nodup_eq {α:Type} {f:α->Nat}:∀ {l:List α},(l.map f).Nodup->∀ {p q:α},p ∈ l->q ∈ l->f p=f q->p=q
 | [],_,_,_,hp,_,_=>by cases hp
 | x :: r,hn,p,q,hp,hq,he=>by
  rw [List.map_cons,List.nodup_cons] at hn;rcases List.mem_cons.1 hp with h1 | hp
  ·rcases List.mem_cons.1 hq with h2 | hq
   ·rw [h1,h2]
   exact absurd (List.mem_map.2 ⟨q,hq,by rw [<-he,h1]⟩) hn.1
  rcases List.mem_cons.1 hq with h2 | hq
  ·exact absurd (List.mem_map.2 ⟨p,hp,by rw [he,h2]⟩) hn.1
  exact nodup_eq hn.2 hp hq he
end
structure Fr (X Z:NP) (w0:World) (L:List LV) (Y:NP) (C:Nat->VL) (w:World):Prop where
 kp:Kp Z w0 w
 sub:∀ k,X k->Y k
 lt:∀ k,Y k->k<w
 blk:∀ p ∈ L,Y p.b/\(w0<=p.b\/Z p.b)/\Bx w p.b (C p.b)/\(C p.b).length=p.ts.length
 val:∀ p ∈ L,∀ j t,p.ts[j]?=some t->p.ow j=none->∃ v,(C p.b)[j]?=some v/\VT w Y (p.K j) t v
 row:∀ p ∈ L,∀ j t et,p.ts[j]?=some t->p.ow j=some et->∃ e A n c,t=.sl e/\(C p.b)[j]?=some (.slice A n c)/\n<=p.K j/\OwT w 0 et e Y (p.K j) A n c/\∀ g,(Value.slice A n c).ownBlock=some g->Y g/\(w0<=g\/Z g)/\∀ q ∈ L,q.b≠g
 far:∀ p ∈ L,∀ q ∈ L,∀ i j u v g,(p.b≠q.b\/i≠j)->p.ow i≠none->q.ow j≠none->(C p.b)[i]?=some u->(C q.b)[j]?=some v->u.ownBlock=some g->v.ownBlock≠some g
 nd:(L.map LV.b).Nodup
def upd (C:Nat->VL) (b:Nat) (vs:VL):Nat->VL:=fun k=>if k=b then vs else C k
theorem upd_same (C:Nat->VL) (b:Nat) (vs:VL):upd C b vs b=vs:=if_pos rfl
theorem ad_ (C:Nat->VL) {b k:Nat} (vs:VL) (h:k≠b):upd C b vs k=C k:=if_neg h
section
variable {X Z Y:NP} {w0 w w':World} {L:List LV} {C:Nat->VL} {b i j:Nat} {K:Nat->Nat} {ts:List CT} {ow:Nat->Option TypeId} {t:CT} {v:Value}
theorem Fr.nil (hX:∀ k,X k->k<w) (Z:NP) (C:Nat->VL):Fr X Z w [] X C w :=
 ⟨Kp.refl _ _,fun _ h=>h,hX,(fun _ h=>by cases h),(fun _ h=>by cases h),(fun _ h=>by cases h),(fun _ h=>by cases h),List.nodup_nil⟩
theorem Fr.below (h:Fr X (fun _=>False) w0 L Y C w):Below w0 w0 w:=h.kp.below (l_) (fun _ _ h=>h)
theorem Fr.call (h:Fr X Z w0 L Y C w) (hb:Below w w w'):Fr X Z w0 L Y C w' :=
 ⟨h.kp.az_ hb,h.sub,fun k hk=>lt_ (h.lt k hk) hb.size,
   fun p hp=>by obtain ⟨h1,h2,h3,h4⟩:=h.blk p hp;exact ⟨h1,h2,h3.below hb,h4⟩,
   fun p hp j t hj ho=>by obtain ⟨v,h1,h2⟩:=h.val p hp j t hj ho;exact ⟨v,h1,h2.up (.of_below hb) (l_)⟩,
   fun p hp j t et hj ho=>by
  obtain ⟨e,A,n,c,h1,h2,h3,h4,h5⟩:=h.row p hp j t et hj ho
  exact ⟨e,A,n,c,h1,h2,h3,h4.stay (cf_ hb none) (fun _ h=>by cases h),h5⟩,
   h.far,h.nd⟩
theorem Fr.drew (h:Fr X Z w0 L Y C w):Fr X Z w0 L Y C w.drew:=h.call (Below.drew (b_))
theorem Fr.mem (hp:L[i]?=some ⟨b,K,ts,ow⟩):(⟨b,K,ts,ow⟩:LV) ∈ L:=List.mem_of_getElem? hp
/- What the variables hold. -/
theorem Fr.box (h:Fr X Z w0 L Y C w) (hp:L[i]?=some ⟨b,K,ts,ow⟩):Bx w b (C b):=(h.blk _ (Fr.mem hp)).2.2.1
theorem Fr.len (h:Fr X Z w0 L Y C w) (hp:L[i]?=some ⟨b,K,ts,ow⟩):(C b).length=ts.length:=(h.blk _ (Fr.mem hp)).2.2.2
theorem Fr.fz (h:Fr X Z w0 L Y C w) (hp:L[i]?=some ⟨b,K,ts,ow⟩):∀ j,w.frozen? (f_ b j)=false:=(h.box hp).2.2
theorem Fr.cell (h:Fr X Z w0 L Y C w) (hp:L[i]?=some ⟨b,K,ts,ow⟩) (hv:(C b)[j]?=some v):w.cell? (f_ b j)=some v:=(h.box hp).2.1 j v hv
theorem Fr.get (h:Fr X Z w0 L Y C w) (hp:L[i]?=some ⟨b,K,ts,ow⟩) (hj:ts[j]?=some t) (ho:ow j=none):∃ v,(C b)[j]?=some v/\w.cell? (f_ b j)=some v/\VT w Y (K j) t v:=by
 obtain ⟨v,h1,h2⟩:=h.val _ (Fr.mem hp) j t hj ho;exact ⟨v,h1,h.cell hp h1,h2⟩
theorem Fr.num (h:Fr X Z w0 L Y C w) (hp:L[i]?=some ⟨b,K,ts,ow⟩) (hj:ts[j]?=some .num) (ho:ow j=none):∃ n,w.cell? (f_ b j)=some (i_ n)/\(C b)[j]?=some (i_ n):=by
 obtain ⟨v,h0,h1,h2⟩:=h.get hp hj ho;obtain ⟨n,rfl⟩:=h2.int;exact ⟨n,h1,h0⟩
theorem Fr.tru (h:Fr X Z w0 L Y C w) (hp:L[i]?=some ⟨b,K,ts,ow⟩) (hj:ts[j]?=some .tru) (ho:ow j=none):∃ n,w.cell? (f_ b j)=some (.bool n)/\(C b)[j]?=some (.bool n):=by
 obtain ⟨v,h0,h1,h2⟩:=h.get hp hj ho;obtain ⟨n,rfl⟩:=h2.bool;exact ⟨n,h1,h0⟩
theorem Fr.slc {e:List CT} (h:Fr X Z w0 L Y C w) (hp:L[i]?=some ⟨b,K,ts,ow⟩) (hj:ts[j]?=some (.sl e)) (ho:ow j=none):∃ A n c,w.cell? (f_ b j)=some (.slice A n c)/\SlT w Y (K j) e A n c/\(C b)[j]?=some (.slice A n c):=by
 obtain ⟨v,h0,h1,h2⟩:=h.get hp hj ho;obtain ⟨A,n,c,rfl,hs⟩:=h2.slice;exact ⟨A,n,c,h1,hs,h0⟩
theorem Fr.own {e:List CT} {et:TypeId} (h:Fr X Z w0 L Y C w) (hp:L[i]?=some ⟨b,K,ts,ow⟩) (hj:ts[j]?=some (.sl e)) (ho:ow j=some et):∃ A n c,w.cell? (f_ b j)=some (.slice A n c)/\(C b)[j]?=some (.slice A n c)/\n<=K j/\OwT w 0 et e Y (K j) A n c/\(∀ g,(Value.slice A n c).ownBlock=some g->Y g):=by
 obtain ⟨e',A,n,c,h1,h2,h3,h4,h5⟩:=h.row _ (Fr.mem hp) j _ et hj ho;injection h1 with h1;subst h1;exact ⟨A,n,c,h.cell hp h2,h2,h3,h4,fun g hg=>(h5 g hg).1⟩
theorem Fr.whole {N:Nat} (h:Fr X Z w0 L Y C w) (hp:L[i]?=some ⟨b,fun _=>N,ts,noOw⟩):VTs w Y N ts (C b) :=
 ⟨h.len hp,fun j t hj=>h.val _ (Fr.mem hp) j t hj rfl⟩
theorem Fr.add (h:Fr X Z w0 L Y C w) (K:Nat->Nat) (ts:List CT) (ow:Nat->Option TypeId) (vs:VL) (ty:TypeId) (hl:vs.length=ts.length)
  (hv:∀ j t,ts[j]?=some t->∃ v,vs[j]?=some v/\((ow j=none/\VT w Y (K j) t v)\/∃ et e,ow j=some et/\t=.sl e/\v=.slice none 0 0)) :
  ∃ Y',Fr X Z w0 (⟨w.heap.size,K,ts,ow⟩ :: L) Y' (upd C w.heap.size vs) (w.alloc (.cells vs.toArray ty))/\Up w Y (w.alloc (.cells vs.toArray ty)) Y':=by
 have hB:Below w.heap.size w (w.alloc (.cells vs.toArray ty)):=(b_).alloc (l_) _;have Aa:∀ k,k<w.heap.size->¬Y k->¬(Y k\/k=w.heap.size):=fun k hk h1 h2=>by rcases h2 with h2 | h2;exact h1 h2;omega
 have A5:Up w Y (w.alloc (.cells vs.toArray ty)) (fun k=>Y k\/k=w.heap.size):=⟨.of_below hB,Aa⟩;have hne:∀ p ∈ L,p.b≠w.heap.size:=fun p hp=>Nat.ne_of_lt (h.lt _ (h.blk p hp).1)
 have h':=h.call hB;refine ⟨fun k=>Y k\/k=w,⟨h'.kp,fun k hk=>.inl (h.sub k hk),fun k hk=>?_,fun p hp=>?_,fun p hp j t hj ho=>?_,fun p hp j t et hj ho=>?_,fun p hp q hq i j u v g A4 A6 A3 hi hj hu=>?_,?_⟩,A5⟩
 ·rcases hk with hk | hk
  ·exact h'.lt k hk
  simp [hk]
 ·rcases List.mem_cons.1 hp with rfl | hp
  ·exact ⟨.inr rfl,.inl h.kp.size,by rw [upd_same];exact Bx.new w vs ty,by rw [upd_same];exact hl⟩
  obtain ⟨h1,h2,h3,h4⟩:=h'.blk p hp;rw [ad_ _ _ (hne p hp)];exact ⟨.inl h1,h2,h3,h4⟩
 ·rcases List.mem_cons.1 hp with rfl | hp
  ·rw [upd_same];obtain ⟨v,h1,h2⟩:=hv j t hj;rcases h2 with ⟨_,h2⟩ | ⟨et,e,h2,_⟩
   ·exact ⟨v,h1,h2.go A5 (l_)⟩
   rw [show ow j=none from ho] at h2;cases h2
  obtain ⟨v,h1,h2⟩:=h.val p hp j t hj ho;rw [ad_ _ _ (hne p hp)];exact ⟨v,h1,h2.go A5 (l_)⟩
 ·rcases List.mem_cons.1 hp with rfl | hp
  ·rw [upd_same];obtain ⟨v,h1,h2⟩:=hv j t hj;rcases h2 with ⟨h2,_⟩ | ⟨et',e,h2,rfl,rfl⟩
   ·rw [show ow j=some et from ho] at h2;cases h2
   exact ⟨e,none,0,0,rfl,h1,Nat.zero_le _,OwT.nil _ _ _ _ _ _,fun g hg=>by cases hg⟩
  obtain ⟨e,A,n,c,h1,h2,h3,h4,h5⟩:=h'.row p hp j t et hj ho;rw [ad_ _ _ (hne p hp)];refine ⟨e,A,n,c,h1,h2,h3,?_,fun g hg=>⟨.inl (h5 g hg).1,(h5 g hg).2.1,fun q hq=>?_⟩⟩
  ·obtain ⟨e',A',n',c',A1,A2,Ab,A7,Ac⟩:=h.row p hp j t et hj ho;rw [h2] at A2;injection A2 with A2;injection A2 with ha hb hc;subst ha hb hc;rw [h1] at A1;injection A1 with A1;subst A1;exact (A7.sub (Y':=fun k=>Y k\/k=w.heap.size) (fun k hk hy=>by rcases hy with hy | hy;exact .inl hy;omega) (l_)).stay (cf_ hB none) (fun _ h=>by cases h)
  rcases List.mem_cons.1 hq with rfl | hq
  ·intro he;have A8:=h5 g hg;have:g<w:=h.lt g A8.1;have he:w=g:=he;omega
  exact (h5 g hg).2.2 q hq
 ·have A0:∀ (j:Nat) (v:Value),ow j≠none->vs[j]?=some v->v.ownBlock=none:=fun j v A3 hj=>by
   have A9:j<ts.length:=by rw [<-hl];exact (e_ hj).1
   obtain ⟨v',h1,h2⟩:=hv j _ (ge_ A9);rw [hj] at h1;injection h1 with h1;subst h1;rcases h2 with ⟨h2,_⟩ | ⟨_,_,_,_,rfl⟩
   ·exact absurd h2 A3
   rfl
  rcases List.mem_cons.1 hp with rfl | hp
  ·rw [upd_same] at hi;rw [A0 i u A6 hi] at hu;cases hu
  rw [ad_ _ _ (hne p hp)] at hi;rcases List.mem_cons.1 hq with rfl | hq
  ·rw [upd_same] at hj;rw [A0 j v A3 hj];simp
  rw [ad_ _ _ (hne q hq)] at hj;exact h.far p hp q hq i j u v g A4 A6 A3 hi hj hu
 rw [List.map_cons,List.nodup_cons];refine ⟨fun hm=>?_,h.nd⟩;obtain ⟨p,hp,he⟩:=List.mem_map.1 hm;exact hne p hp he
theorem Fr.tail {p:LV} (h:Fr X Z w0 (p :: L) Y C w):Fr X Z w0 L Y C w :=
 ⟨h.kp,h.sub,h.lt,fun q hq=>h.blk q (.tail _ hq),fun q hq=>h.val q (.tail _ hq),
   fun q hq j t et hj ho=>by
  obtain ⟨e,A,n,c,h1,h2,h3,h4,h5⟩:=h.row q (.tail _ hq) j t et hj ho
  exact ⟨e,A,n,c,h1,h2,h3,h4,fun g hg=>⟨(h5 g hg).1,(h5 g hg).2.1,fun r hr=>(h5 g hg).2.2 r (.tail _ hr)⟩⟩,
   fun q hq r hr=>h.far q (.tail _ hq) r (.tail _ hr),by have:=h.nd;rw [List.map_cons,List.nodup_cons] at this;exact this.2⟩
theorem Fr.raise {L':List LV} (h:Fr X Z w0 L Y C w) (hL:L'.length=L.length) (hr:∀ (i:Nat) (p q:LV),L[i]?=some p->L'[i]?=some q->q.b=p.b/\q.ts=p.ts/\q.ow=p.ow/\∀ j,p.K j<=q.K j):Fr X Z w0 L' Y C w:=by
 have back:∀ q ∈ L',∃ p ∈ L,q.b=p.b/\q.ts=p.ts/\q.ow=p.ow/\∀ j,p.K j<=q.K j:=fun q hq=>by
  obtain ⟨i,hi⟩:=List.getElem?_of_mem hq;have A0:i<L.length:=by rw [<-hL];exact (e_ hi).1
  exact ⟨L[i],List.getElem_mem A0,hr i _ q (ge_ A0) hi⟩
 refine ⟨h.kp,h.sub,h.lt,fun q hq=>?_,fun q hq j t hj ho=>?_,fun q hq j t et hj ho=>?_,fun p hp q hq i j u v g hne A1 A2 hi hj hu=>?_,?_⟩
 ·obtain ⟨p,hp,e1,e2,e3,e4⟩:=back q hq;rw [e1,e2];exact h.blk p hp
 ·obtain ⟨p,hp,e1,e2,e3,e4⟩:=back q hq;rw [e2] at hj;rw [e3] at ho;obtain ⟨v,h1,h2⟩:=h.val p hp j t hj ho;rw [e1];exact ⟨v,h1,h2.kept (Kp.refl _ _) (fun _ _ h=>h) (e4 j)⟩
 ·obtain ⟨p,hp,e1,e2,e3,e4⟩:=back q hq;rw [e2] at hj;rw [e3] at ho;obtain ⟨e,A,n,c,h1,h2,h3,h4,h5⟩:=h.row p hp j t et hj ho;rw [e1];refine ⟨e,A,n,c,h1,h2,Nat.le_trans h3 (e4 j),h4.sub (fun _ _ h=>.inl h) (e4 j),fun g hg=>⟨(h5 g hg).1,(h5 g hg).2.1,fun r A5=>?_⟩⟩;obtain ⟨s,hs,e5,_⟩:=back r A5;rw [e5];exact (h5 g hg).2.2 s hs
 ·obtain ⟨p',A3,e1,e2,e3,e4⟩:=back p hp;obtain ⟨q',A4,f1,f2,f3,f4⟩:=back q hq;rw [e1] at hi;rw [f1] at hj;rw [e1,f1] at hne;rw [e3] at A1;rw [f3] at A2;exact h.far p' A3 q' A4 i j u v g hne A1 A2 hi hj hu
 have:L'.map LV.b=L.map LV.b:=by
  apply List.ext_getElem?;intro i;rw [List.getElem?_map,List.getElem?_map];by_cases hi:i<L.length
  ·exact t5_
  rw [List.getElem?_eq_none o_,List.getElem?_eq_none o_]
 rw [this];exact h.nd
theorem Fr.write {vs:VL} (h:Fr X Z w0 L Y C w) (hp:L[i]?=some ⟨b,K,ts,ow⟩) (hk:Kp (fun k=>k=b) w w') (hsz:w'.heap.size=w.heap.size) (hB:Bx w' b vs) (hl:vs.length=ts.length)
  (hv:∀ j t,ts[j]?=some t->(ow j=none->∃ v,vs[j]?=some v/\VT w' Y (K j) t v)/\(ow j≠none->vs[j]?=(C b)[j]?)):Fr X Z w0 L Y (upd C b vs) w'/\Up w Y w' Y:=by
 have A3:=Fr.mem hp;obtain ⟨A4,A2,Ab,Ac⟩:=h.blk _ A3;have A9:Kp Y w w':=hk.mono (fun k _ h=>by subst h;exact A4);have A7:Up w Y w' Y:=⟨A9,fun _ _ h=>h⟩;have hg:w.grownBy w' (some b):=⟨hk.os,hk.tape,hk.output,hk.size,fun k A1 hne=>hk.block k A1 (fun e=>hne xy_)⟩;have same:∀ p ∈ L,p.b=b->p=⟨b,K,ts,ow⟩:=fun p hp he=>nodup_eq h.nd hp A3 he
 have A0:∀ p ∈ L,∀ j v,p.ow j≠none->((upd C b vs) p.b)[j]?=some v->(C p.b)[j]?=some v:=fun p hp j v ho hj=>by
  by_cases he:p.b=b
  ·have:=same p hp he;subst this;rw [show (upd C b vs) b=vs from upd_same _ _ _] at hj;have Aa:j<ts.length:=by rw [<-hl];exact (e_ hj).1
   rw [<-(hv j _ (ge_ Aa)).2 ho];exact hj
  rwa [ad_ _ _ he] at hj
 refine ⟨⟨?_,h.sub,fun k A1=>by rw [hsz];exact h.lt k A1,fun p hp=>?_,fun p hp j t hj ho=>?_,fun p hp j t et hj ho=>?_,fun p hp q hq i j u v g hne A5 A6 hi hj hu=>h.far p hp q hq i j u v g hne A5 A6 (A0 p hp i u A5 hi) (A0 q hq j v A6 hj) hu,h.nd⟩,A7⟩
 ·refine ⟨hk.os.trans h.kp.os,hk.tape.trans h.kp.tape,hk.output.trans h.kp.output,Nat.le_trans h.kp.size hk.size,fun k A1 hz=>(hk.block k (lt_ A1 h.kp.size) (fun e=>?_)).trans (h.kp.block k A1 hz)⟩;subst e;rcases A2 with A2 | A2
  ·have A2:w0.heap.size<=k:=A2;omega
  exact hz A2
 ·obtain ⟨h1,h2,h3,h4⟩:=h.blk p hp;by_cases he:p.b=b
  ·have:=same p hp he;subst this;exact ⟨h1,h2,by rw [show (upd C b vs) b=vs from upd_same _ _ _];exact hB,by rw [show (upd C b vs) b=vs from upd_same _ _ _];exact hl⟩
  rw [ad_ _ _ he];exact ⟨h1,h2,h3.kp hk he,h4⟩
 ·by_cases he:p.b=b
  ·have:=same p hp he;subst this;rw [show (upd C b vs) b=vs from upd_same _ _ _];exact (hv j t hj).1 ho
  obtain ⟨v,h1,h2⟩:=h.val p hp j t hj ho;rw [ad_ _ _ he];exact ⟨v,h1,h2.go A7 (l_)⟩
 obtain ⟨e,A,n,c,h1,h2,h3,h4,h5⟩:=h.row p hp j t et hj ho;refine ⟨e,A,n,c,h1,?_,h3,h4.stay hg (fun k A1=>by injection A1 with A1;subst A1;exact ⟨A4,fun A8=>(h5 _ A8).2.2 _ A3 rfl⟩),h5⟩;by_cases he:p.b=b
 ·have:=same p hp he;subst this;rw [show (upd C b vs) b=vs from upd_same _ _ _,(hv j t hj).2 (fun e=>by cases (show some et=none from ho.symm.trans e))];exact h2
 rw [ad_ _ _ he];exact h2
theorem Fr.set (h:Fr X Z w0 L Y C w) (hp:L[i]?=some ⟨b,K,ts,ow⟩) (hj:ts[j]?=some t) (ho:ow j=none) (hv:VT w Y (K j) t v):Fr X Z w0 L Y (upd C b ((C b).set j v)) (w.setCell (f_ b j) v)/\Up w Y (w.setCell (f_ b j) v) Y:=by
 have hk:Kp (fun k=>k=b) w (w.setCell (f_ b j) v):=(Kp.refl (fun k=>k=b) w).setCell (p:=(f_ b j)) (.inl rfl) v;have A3:=(h.blk _ (Fr.mem hp)).1;have A2:Kp Y w (w.setCell (f_ b j) v):=(Kp.refl _ w).setCell (.inl A3) v;refine h.write hp hk (by simp [World.setCell]) ((h.box hp).set j v) (by rw [List.length_set];exact h.len hp) (fun q s hq=>⟨fun A1=>?_,fun A1=>?_⟩)
 ·obtain ⟨u,hu,A4⟩:=h.val _ (Fr.mem hp) q s hq A1;by_cases A0:j=q
  ·subst A0;rw [show ts[j]?=some s from hq] at hj;injection hj with hj;subst hj;exact ⟨v,by rw [gs_,if_pos rfl,if_pos (e_ hu).1],hv.up A2 (l_)⟩
  exact ⟨u,by rw [gs_,if_neg A0];exact hu,A4.up A2 (l_)⟩
 have A0:j≠q:=fun e=>by subst e;exact A1 ho
 rw [gs_,if_neg A0]
theorem Fr.sets {N:Nat} {vs:VL} (h:Fr X Z w0 L Y C w) (hp:L[i]?=some ⟨b,fun _=>N,ts,noOw⟩) (hv:VTs w Y N ts vs):Fr X Z w0 L Y (upd C b vs) (w.setCells b 0 vs)/\Up w Y (w.setCells b 0 vs) Y:=by
 have hk:Kp (fun k=>k=b) w (w.setCells b 0 vs):=ai_ b vs 0 (Kp.refl _ w) (.inl rfl);have A0:=(h.blk _ (Fr.mem hp)).1;have A1:Kp Y w (w.setCells b 0 vs):=ai_ b vs 0 (Kp.refl _ w) (.inl A0);refine h.write hp hk (setCells_size _ _ _ _) ((h.box hp).all vs (by rw [hv.1,h.len hp])) hv.1 (fun q s hq=>⟨fun _=>?_,fun A2=>absurd rfl A2⟩);obtain ⟨u,hu,A3⟩:=hv.2 q s hq;exact ⟨u,hu,A3.up A1 (l_)⟩
theorem Fr.part {o N:Nat} {us:List CT} {vs:VL} (h:Fr X Z w0 L Y C w) (hp:L[i]?=some ⟨b,K,ts,ow⟩) (hu:(ts.drop o).take us.length=us) (hou:o+us.length<=ts.length) (hv:VTs w Y N us vs) (hK:∀ j,o<=j->j<o+us.length->N<=K j/\ow j=none):Fr X Z w0 L Y (upd C b (splice (C b) o vs)) (w.setCells b o vs)/\Up w Y (w.setCells b o vs) Y:=by
 have hk:Kp (fun k=>k=b) w (w.setCells b o vs):=ai_ b vs o (Kp.refl _ w) (.inl rfl);have A5:=(h.blk _ (Fr.mem hp)).1;have A4:Kp Y w (w.setCells b o vs):=ai_ b vs o (Kp.refl _ w) (.inl A5);have hl:=h.len hp;have A0:((C b).take o).length=o:=by rw [List.length_take,hl];omega
 have out:∀ q,q<o\/o+us.length<=q->(splice (C b) o vs)[q]?=(C b)[q]?:=fun q hq=>by
  unfold splice;rcases hq with hq | hq
  ·rw [List.getElem?_append_left (by rw [A0];exact hq),List.getElem?_take,if_pos hq]
  rw [List.getElem?_append_right z9_,A0,List.getElem?_append_right (by rw [hv.1];omega),hv.1,List.getElem?_drop]
  congr 1;omega
 refine h.write hp hk (setCells_size _ _ _ _) ((h.box hp).put o vs (by rw [hv.1,hl];exact hou)) (by unfold splice;rw [List.length_append,List.length_append,A0,List.length_drop,hl,hv.1];omega) (fun q s hq=>⟨fun A2=>?_,fun A2=>?_⟩)
 ·by_cases hin:o<=q/\q<o+us.length
  ·have hs:us[q - o]?=some s:=by
    rw [<-hu,List.getElem?_take,if_pos o_,List.getElem?_drop,show o+(q - o)=q from by omega];exact hq
   obtain ⟨u,A1,A3⟩:=hv.2 (q - o) s hs;refine ⟨u,?_,A3.kept A4 (fun _ _ h=>h) (hK q hin.1 hin.2).1⟩;unfold splice;rw [List.getElem?_append_right z9_,A0,List.getElem?_append_left (e_ A1).1];exact A1
  rw [out q o_];obtain ⟨u,A1,A3⟩:=h.val _ (Fr.mem hp) q s hq A2;exact ⟨u,A1,A3.up A4 (l_)⟩
 refine out q ?_;by_cases hin:o<=q/\q<o+us.length
 ·exact absurd (hK q hin.1 hin.2).2 A2
 omega
theorem Fr.append {e:List CT} {et:TypeId} {A A':OA} {n n' c c':Nat} (h:Fr X Z w0 L Y C w) (hp:L[i]?=some ⟨b,K,ts,ow⟩) (hj:ts[j]?=some (.sl e)) (ho:ow j=some et) (hC:(C b)[j]?=some (.slice A n c))
  (hO:OwT w' 0 et e Y (K j) A' n' c') (hn:n'<=K j) (hg:w.grownBy w' (Value.slice A n c).ownBlock) (hloc:∀ g,(Value.slice A' n' c').ownBlock=some g->(Value.slice A n c).ownBlock=some g\/g=w.heap.size) :
  ∃ Y',Fr X Z w0 L Y' (upd C b ((C b).set j (.slice A' n' c'))) (w'.setCell (f_ b j) (.slice A' n' c'))/\Up w Y (w'.setCell (f_ b j) (.slice A' n' c')) Y':=by
 have A4:=Fr.mem hp;obtain ⟨Aa,Am,Ar,Au⟩:=h.blk _ A4;obtain ⟨e1,A1,n1,c1,q1,q2,q3,q4,q5⟩:=h.row _ A4 j _ et hj ho;injection q1 with q1;subst q1;rw [show (C b)[j]?=some (.slice A1 n1 c1) from q2] at hC;injection hC with hC;injection hC with ha hb hc;subst ha hb hc;have A7:j<(C b).length:=(e_ q2).1;have As:b<w.heap.size:=h.lt _ Aa
 -- the world after both
 have A3:∀ g,(Value.slice A1 n1 c1).ownBlock=some g->Y g:=fun g hg=>(q5 g hg).1
 have A9:∀ p ∈ L,(Value.slice A1 n1 c1).ownBlock≠some p.b:=fun p hp he=>(q5 _ he).2.2 p hp rfl
 have Ac:Kp Y w w':=(Kp.refl _ w).grown hg (fun g hg=>.inl (A3 g hg));have Ao:Kp Y w (w'.setCell (f_ b j) (.slice A' n' c')):=Ac.setCell (.inl Aa) _;have Ad:∀ g,(Value.slice A' n' c').ownBlock=some g->g<w'.heap.size:=fun g A0=>by obtain ⟨xs,hx,_⟩:=hO;exact (an_ hx A0).2
 have Ap:∀ k,k<w.heap.size->¬Y k->¬(Y k\/(Value.slice A' n' c').ownBlock=some k):=fun k hk h1 h2=>by
  rcases h2 with h2 | h2
  ·exact h1 h2
  rcases hloc k h2 with h3 | h3
  ·exact h1 (A3 k h3)
  omega
 have Af:Up w Y (w'.setCell (f_ b j) (.slice A' n' c')) (fun k=>Y k\/(Value.slice A' n' c').ownBlock=some k):=⟨Ao,Ap⟩;have hsz:(w'.setCell (f_ b j) (.slice A' n' c')).heap.size=w'.heap.size:=by simp [World.setCell]
 have Ag:∀ p ∈ L,Bx w' p.b (C p.b):=fun p hp=>by
  have hx:=(h.blk p hp).2.2.1;exact hx.kp (X:=fun k=>(Value.slice A1 n1 c1).ownBlock=some k) ((Kp.refl _ w).grown hg (fun g hg=>.inl hg)) (A9 p hp)
 have same:∀ p ∈ L,p.b=b->p=⟨b,K,ts,ow⟩:=fun p hp he=>nodup_eq h.nd hp A4 he
 -- the row's block is none of the variables'
 have Ai:∀ g,(Value.slice A' n' c').ownBlock=some g->∀ q ∈ L,q.b≠g:=fun g A0 q hq=>by
  rcases hloc g A0 with h3 | h3
  ·exact (q5 g h3).2.2 q hq
  have:=h.lt _ (h.blk q hq).1;omega
 -- other rows' blocks are not it
 have Aj:∀ p ∈ L,∀ i u g,(p.b≠b\/i≠j)->p.ow i≠none->(C p.b)[i]?=some u->u.ownBlock=some g->(Value.slice A' n' c').ownBlock≠some g:=fun p hp i u g hne A8 hu A0 An=>by
  rcases hloc g An with h3 | h3
  ·exact h.far p hp _ A4 i j u _ g hne A8 (fun e=>by cases (show some et=none from ho.symm.trans e)) hu q2 A0 h3
  cases hot:p.ts[i]? with
  | none =>
   have h1:=(e_ hu).1;rw [(h.blk p hp).2.2.2] at h1;rw [List.getElem?_eq_none_iff] at hot;omega
  | some t =>
   cases hoo:p.ow i with
   | none=>exact A8 hoo
   | some A6 =>
    obtain ⟨e2,A2,n2,c2,r1,r2,r3,r4,r5⟩:=h.row p hp i t A6 hot hoo;rw [r2] at hu;injection hu with hu;subst hu;have:=h.lt _ (r5 g A0).1;omega
 refine ⟨_,⟨?_,fun k hk=>.inl (h.sub k hk),fun k hk=>?_,fun p hp=>?_,fun p hp q t hq A5=>?_,fun p hp q t A6 hq A5=>?_,fun p hp q hq i1 j1 u v g hne A8 Ak hi Ah hu=>?_,h.nd⟩,Af⟩
 ·refine (h.kp.grown hg (fun g hg=>?_)).setCell (p:=(f_ b j)) ?_ _
  ·rcases (q5 g hg).2.1 with h3 | h3
   ·exact .inr h3
   exact .inl h3
  rcases Am with h3 | h3
  ·exact .inr h3
  exact .inl h3
 ·rw [hsz];rcases hk with hk | hk
  ·exact lt_ (h.lt k hk) hg.size
  exact Ad k hk
 ·obtain ⟨h1,h2,h3,h4⟩:=h.blk p hp;by_cases he:p.b=b
  ·have:=same p hp he;subst this;rw [show (upd C b ((C b).set j (.slice A' n' c'))) b=_ from upd_same _ _ _];exact ⟨.inl h1,h2,(Ag _ A4).set j _,by rw [List.length_set];exact h4⟩
  rw [ad_ _ _ he];exact ⟨.inl h1,h2,(Ag p hp).far (fun e=>he e.symm) _,h4⟩
 ·obtain ⟨v,h1,h2⟩:=h.val p hp q t hq A5;by_cases he:p.b=b
  ·have:=same p hp he;subst this;have Ab:j≠q:=fun e=>by subst e;rw [show ow j=none from A5] at ho;cases ho
   rw [show (upd C b ((C b).set j (.slice A' n' c'))) b=_ from upd_same _ _ _,gs_,if_neg Ab];exact ⟨v,h1,h2.go Af (l_)⟩
  rw [ad_ _ _ he];exact ⟨v,h1,h2.go Af (l_)⟩
 ·by_cases hsame:p.b=b/\q=j
  ·obtain ⟨he,rfl⟩:=hsame;have:=same p hp he;subst this;rw [show ts[q]?=some t from hq] at hj;injection hj with hj;subst hj;rw [show ow q=some A6 from A5] at ho;injection ho with ho;subst ho;rw [show (upd C b ((C b).set q (.slice A' n' c'))) b=_ from upd_same _ _ _];refine ⟨e,A',n',c',rfl,by rw [gs_,if_pos rfl,if_pos A7],hn,?_,fun g A0=>⟨.inr A0,?_,Ai g A0⟩⟩
   ·exact (hO.stay (dw_ w' (f_ b q) _) (fun k hk=>by injection hk with hk;subst hk;exact ⟨Aa,fun A0=>Ai _ A0 _ A4 rfl⟩)).sub (fun k _ hy=>hy) (l_)
   rcases hloc g A0 with h3 | h3
   ·exact (q5 g h3).2.1
   exact .inl (by have:=h.kp.size;omega)
  have hne:p.b≠b\/q≠j:=by
   by_cases h1:p.b=b
   ·exact .inr (fun h2=>hsame ⟨h1,h2⟩)
   exact .inl h1
  obtain ⟨e2,A2,n2,c2,r1,r2,r3,r4,r5⟩:=h.row p hp q t A6 hq A5;have Ae:p.ow q≠none:=by rw [A5];simp
  have Al:((upd C b ((C b).set j (.slice A' n' c'))) p.b)[q]?=some (.slice A2 n2 c2):=by
   by_cases he:p.b=b
   ·have:=same p hp he;subst this;have Ab:j≠q:=fun e=>by rcases hne with h1 | h1;exact h1 rfl;exact h1 e.symm
    rw [show (upd C b ((C b).set j (.slice A' n' c'))) b=_ from upd_same _ _ _,gs_,if_neg Ab];exact r2
   rw [ad_ _ _ he];exact r2
  refine ⟨e2,A2,n2,c2,r1,Al,r3,?_,fun g A0=>⟨.inl (r5 g A0).1,(r5 g A0).2.1,(r5 g A0).2.2⟩⟩;have s1:OwT w 0 A6 e2 (fun k=>Y k\/(Value.slice A' n' c').ownBlock=some k) (p.K q) A2 n2 c2:=r4.sub (fun k hk hy=>by
   rcases hy with hy | hy
   ·exact .inl hy
   rcases hloc k hy with h3 | h3
   ·exact .inl (A3 k h3)
   omega) (l_)
  have s2:=s1.stay hg (fun k hk=>⟨.inl (A3 k hk),fun A0=>h.far p hp _ A4 q j _ _ k hne Ae (fun e=>by cases (show some et=none from ho.symm.trans e)) r2 q2 A0 hk⟩);exact s2.stay (dw_ w' (f_ b j) _) (fun k hk=>by injection hk with hk;subst hk;exact ⟨.inl Aa,fun A0=>(r5 _ A0).2.2 _ A4 rfl⟩)
 have back:∀ p ∈ L,∀ i u,((upd C b ((C b).set j (.slice A' n' c'))) p.b)[i]?=some u->(p.b=b/\i=j/\u=.slice A' n' c')\/((p.b≠b\/i≠j)/\(C p.b)[i]?=some u):=fun p hp i u hu=>by
  by_cases he:p.b=b
  ·have:=same p hp he;subst this;rw [show (upd C b ((C b).set j (.slice A' n' c'))) b=_ from upd_same _ _ _,gs_] at hu;by_cases hij:j=i
   ·subst hij;rw [if_pos rfl,if_pos A7] at hu;injection hu with hu;exact .inl ⟨rfl,rfl,hu.symm⟩
   rw [if_neg hij] at hu;exact .inr ⟨.inr (fun e=>hij e.symm),hu⟩
  rw [ad_ _ _ he] at hu;exact .inr ⟨.inl he,hu⟩
 rcases back p hp i1 u hi with ⟨p1,p2,rfl⟩ | ⟨p1,p2⟩
 ·rcases back q hq j1 v Ah with ⟨r1,r2,rfl⟩ | ⟨r1,r2⟩
  ·exfalso;rcases hne with hne | hne
   ·exact hne (p1.trans r1.symm)
   exact hne (p2.trans r2.symm)
  intro Aq;exact Aj q hq j1 v g r1 Ak r2 Aq hu
 rcases back q hq j1 v Ah with ⟨r1,r2,rfl⟩ | ⟨r1,r2⟩
 ·exact Aj p hp i1 u g p1 A8 p2 hu
 exact h.far p hp q hq i1 j1 u v g hne A8 Ak p2 r2 hu
theorem Fr.add1 (h:Fr X Z w0 L Y C w) (N:Nat) (ts:List CT) (vs:VL) (ty:TypeId) (hv:VTs w Y N ts vs) :
  ∃ W Y' C',W=w.alloc (.cells vs.toArray ty)/\W.heap.size=w.heap.size+1/\Up w Y W Y'/\Fr X Z w0 (⟨w.heap.size,fun _=>N,ts,noOw⟩ :: L) Y' C' W/\C' w.heap.size=vs/\∀ k,k≠w.heap.size->C' k=C k:=by
 obtain ⟨Y',h1,h2⟩:=h.add (fun _=>N) ts noOw vs ty hv.1 (fun j t hj=>by obtain ⟨v,h1,h2⟩:=hv.2 j t hj;exact ⟨v,h1,.inl ⟨rfl,h2⟩⟩);exact ⟨_,Y',_,rfl,zk_,h2,h1,upd_same _ _ _,fun k hk=>ad_ _ _ hk⟩
theorem Fr.up1 {p q:LV} (h:Fr X Z w0 (p :: L) Y C w) (e1:q.b=p.b) (e2:q.ts=p.ts) (e3:q.ow=p.ow) (e4:∀ j,p.K j<=q.K j):Fr X Z w0 (q :: L) Y C w :=
 h.raise rfl (fun i a c ha hc=>by
  cases i with
  | zero=>simp at ha hc;subst ha hc;exact ⟨e1,e2,e3,e4⟩
  | succ i=>simp at ha hc;rw [ha] at hc;injection hc with hc;subst hc;exact ⟨rfl,rfl,rfl,fun _=>l_⟩)
theorem Fr.perm {L':List LV} (h:Fr X Z w0 L Y C w) (hm:∀ p,p ∈ L'->p ∈ L) (hn:(L'.map LV.b).Nodup):Fr X Z w0 L' Y C w :=
 ⟨h.kp,h.sub,h.lt,fun q hq=>h.blk q (hm q hq),fun q hq=>h.val q (hm q hq),
   fun q hq j t et hj ho=>by
  obtain ⟨e,A,n,c,h1,h2,h3,h4,h5⟩:=h.row q (hm q hq) j t et hj ho
  exact ⟨e,A,n,c,h1,h2,h3,h4,fun g hg=>⟨(h5 g hg).1,(h5 g hg).2.1,fun r hr=>(h5 g hg).2.2 r (hm r hr)⟩⟩,
   fun q hq r hr=>h.far q (hm q hq) r (hm r hr),hn⟩
theorem Fr.swap {p q:LV} (h:Fr X Z w0 (p :: q :: L) Y C w):Fr X Z w0 (q :: p :: L) Y C w :=
 h.perm (fun r hr=>by simp at hr ⊢;rcases hr with h | h | h;exact .inr (.inl h);exact .inl h;exact .inr (.inr h)) (by
  have:=h.nd
  simp only [List.map_cons,List.nodup_cons,List.mem_cons,not_or] at this ⊢
  exact ⟨⟨fun e=>this.1.1 e.symm,this.2.1⟩,this.1.2,this.2.2⟩)
theorem Fr.info {P:Program} {T:TypeId} (h:Fr X Z w0 L Y C w) (hp:L[i]?=some ⟨b,K,ts,ow⟩) (hi:(P.info? T).map (·.size)=some ts.length):(P.info? T).map (·.size)=some (C b).length:=by rw [h.len hp];exact hi
theorem Fr.there (h:Fr X Z w0 L Y C w) (hp:L[i]?=some ⟨b,K,ts,ow⟩) {o n:Nat} (hn:o+n<=ts.length):w.there b o n:=(h.box hp).there (by rw [h.len hp];exact hn)
theorem Bx.aj_ {w:World} {b n m:Nat} {cs:VL} (h:Bx w b cs) (hl:cs.length=n) (hm:m<=n):w.there b 0 m:=h.there o_
theorem Fr.blt (h:Fr X Z w0 L Y C w) (hp:L[i]?=some ⟨b,K,ts,ow⟩):b<w:=(h.box hp).1
/- What is handed back. -/
end
def KT (vs us:VL):Prop:=us[42]?=vs[42]?/\us[47]?=vs[47]?
theorem KT.refl (vs:VL):KT vs vs:=⟨rfl,rfl⟩
theorem KT.trans {vs us xs:VL} (h:KT vs us) (h2:KT us xs):KT vs xs:=⟨h2.1.trans h.1,h2.2.trans h.2⟩
theorem KT.set (vs:VL) (j:Nat) (v:Value) (hj:j≠42/\j≠47):KT vs (vs.set j v):=⟨by rw [gs_,if_neg hj.1],by rw [gs_,if_neg hj.2]⟩
def RAk (X:NP) (K:Nat) (ts:List CT) (vs:VL) (e:Ending) (w:World):Prop:=∃ us,e=.returned (.agg us.toArray)/\VTs w X K ts us/\Hid (KT vs us)
def RATk (X:NP) (K:Nat) (ts:List CT) (t:CT) (vs:VL) (e:Ending) (w:World):Prop:=∃ us v,e=.returned (.tuple #[.agg us.toArray,v])/\VTs w X K ts us/\VT w X K t v/\Hid (KT vs us)
theorem Fr.ratk {X:NP} {w0 w:World} {L:List LV} {Y:NP} {C:Nat->VL} {i b N:Nat} {ts:List CT} {t:CT} {v:Value} {vs:VL} (h:Fr X (fun _=>False) w0 L Y C w) (hp:L[i]?=some ⟨b,fun _=>N,ts,noOw⟩) (hv:VT w Y N t v) (hk:KT vs (C b)):RATk X N ts t vs (.returned (.tuple #[.agg (C b).toArray,v])) w/\Below w0 w0 w :=
 ⟨⟨_,_,rfl,(h.whole hp).less (fun k _ hk=>h.sub k hk),hv.less (fun k _ hk=>h.sub k hk),q_ hk⟩,h.below⟩
/- The variables at a function's beginning. -/
section
variable {X:NP} {w:World}
theorem Fr.start1 (hX:∀ k,X k->k<w) (N0:Nat) (s0:List CT) (v0:VL) (t0:TypeId) (h0:VTs w X N0 s0 v0) :
  ∃ W Y C,W=w.alloc (.cells v0.toArray t0)/\W.heap.size=w.heap.size+1/\Up w X W Y/\Fr X (fun _=>False) w [⟨w.heap.size,fun _=>N0,s0,noOw⟩] Y C W/\C w.heap.size=v0:=by
 obtain ⟨W,Y,C,h1,h2,h3,h4,h5,_⟩:=(Fr.nil hX (fun _=>False) (fun _=>[])).add1 N0 s0 v0 t0 h0;exact ⟨W,Y,C,h1,h2,h3,h4,h5⟩
theorem Fr.start2 (hX:∀ k,X k->k<w.heap.size) (N0:Nat) (s0:List CT) (v0:VL) (t0:TypeId) (h0:VTs w X N0 s0 v0) (N1:Nat) (s1:List CT) (v1:VL) (t1:TypeId) (h1:VTs w X N1 s1 v1) :
  ∃ W Y C,W=(w.alloc (.cells v0.toArray t0)).alloc (.cells v1.toArray t1)/\W.heap.size=w.heap.size+2/\Up w X W Y/\Fr X (fun _=>False) w [⟨w.heap.size+1,fun _=>N1,s1,noOw⟩,⟨w.heap.size,fun _=>N0,s0,noOw⟩] Y C W/\C w.heap.size=v0/\C (w.heap.size+1)=v1:=by
 obtain ⟨V,Y0,C0,rfl,hz,u0,f0,c0⟩:=Fr.start1 hX N0 s0 v0 t0 h0;obtain ⟨W,Y,C,hW,A0,u1,f1,d1,d2⟩:=f0.add1 N1 s1 v1 t1 (h1.go u0 (l_));rw [hz] at A0 f1 d1 d2;exact ⟨W,Y,C,hW,A0,u0.trans u1,f1,(d2 _ o_).trans c0,d1⟩
theorem Fr.start3 (hX:∀ k,X k->k<w.heap.size) (N0:Nat) (s0:List CT) (v0:VL) (t0:TypeId) (h0:VTs w X N0 s0 v0) (N1:Nat) (s1:List CT) (v1:VL) (t1:TypeId) (h1:VTs w X N1 s1 v1) (N2:Nat) (s2:List CT) (v2:VL) (t2:TypeId) (h2:VTs w X N2 s2 v2) :
  ∃ W Y C,W=((w.alloc (.cells v0.toArray t0)).alloc (.cells v1.toArray t1)).alloc (.cells v2.toArray t2)/\W.heap.size=w.heap.size+3/\Up w X W Y/\Fr X (fun _=>False) w [⟨w.heap.size+2,fun _=>N2,s2,noOw⟩,⟨w.heap.size+1,fun _=>N1,s1,noOw⟩,⟨w.heap.size,fun _=>N0,s0,noOw⟩] Y C W/\C w.heap.size=v0/\C (w.heap.size+1)=v1/\C (w.heap.size+2)=v2:=by
 obtain ⟨V,Y0,C0,rfl,hz,u0,f0,c0,c1⟩:=Fr.start2 hX N0 s0 v0 t0 h0 N1 s1 v1 t1 h1;obtain ⟨W,Y,C,hW,A0,u1,f1,d1,d2⟩:=f0.add1 N2 s2 v2 t2 (h2.go u0 (l_));rw [hz] at A0 f1 d1 d2;exact ⟨W,Y,C,hW,A0,u0.trans u1,f1,(d2 _ o_).trans c0,(d2 _ o_).trans c1,d1⟩
theorem Fr.start4 (hX:∀ k,X k->k<w.heap.size) (N0:Nat) (s0:List CT) (v0:VL) (t0:TypeId) (h0:VTs w X N0 s0 v0) (N1:Nat) (s1:List CT) (v1:VL) (t1:TypeId) (h1:VTs w X N1 s1 v1) (N2:Nat) (s2:List CT) (v2:VL) (t2:TypeId) (h2:VTs w X N2 s2 v2) (N3:Nat) (s3:List CT) (v3:VL) (t3:TypeId) (h3:VTs w X N3 s3 v3) :
  ∃ W Y C,W=(((w.alloc (.cells v0.toArray t0)).alloc (.cells v1.toArray t1)).alloc (.cells v2.toArray t2)).alloc (.cells v3.toArray t3)/\W.heap.size=w.heap.size+4/\Up w X W Y/\Fr X (fun _=>False) w [⟨w.heap.size+3,fun _=>N3,s3,noOw⟩,⟨w.heap.size+2,fun _=>N2,s2,noOw⟩,⟨w.heap.size+1,fun _=>N1,s1,noOw⟩,⟨w.heap.size,fun _=>N0,s0,noOw⟩] Y C W/\C w.heap.size=v0/\C (w.heap.size+1)=v1/\C (w.heap.size+2)=v2/\C (w.heap.size+3)=v3:=by
 obtain ⟨V,Y0,C0,rfl,hz,u0,f0,c0,c1,c2⟩:=Fr.start3 hX N0 s0 v0 t0 h0 N1 s1 v1 t1 h1 N2 s2 v2 t2 h2;obtain ⟨W,Y,C,hW,A0,u1,f1,d1,d2⟩:=f0.add1 N3 s3 v3 t3 (h3.go u0 (l_));rw [hz] at A0 f1 d1 d2;exact ⟨W,Y,C,hW,A0,u0.trans u1,f1,(d2 _ o_).trans c0,(d2 _ o_).trans c1,(d2 _ o_).trans c2,d1⟩
def CT.zero:CT->Value
 | .num=>.int .i64 0
 | .tru=>.bool false
 | .txt=>.string ByteArray.empty
 | .sl _=>.slice none 0 0
 | .lst _ _=>.slice none 0 0
 | .sat _=>.pointer none
def CT.zok:CT->Bool
 | .sat _=>false
 | _=>true
theorem vt_zero (K:Nat):∀ t:CT,t.zok=true->VT w X K t t.zero
 | .num,_=>.num _
 | .tru,_=>.tru _
 | .txt,_=>.txt _
 | .sl _,_=>.nil _
 | .lst _ _,_=>.lnil _ _
theorem bb_ (K:Nat) (ts:List CT) (h:ts.all CT.zok=true:=by rfl):VTs w X K ts (ts.map CT.zero):=⟨zk_,fun j t hj=>⟨t.zero,by simp [hj],vt_zero K t (List.all_eq_true.1 h t (List.mem_of_getElem? hj))⟩⟩
end
theorem Fr.ef_ {X Z:NP} {w0 w:World} {L:List LV} {Y:NP} {C:Nat->VL} (h:Fr X Z w0 L Y C w) (N:Nat) (ts:List CT) (zs us:VL) (ty:TypeId) (hz:VTs w Y N ts zs) (hu:VTs w Y N ts us) :
  ∃ W Y' C',W=(w.alloc (.cells zs.toArray ty)).setCells w.heap.size 0 us/\W.heap.size=w.heap.size+1/\Up w Y W Y'/\Fr X Z w0 (⟨w.heap.size,fun _=>N,ts,noOw⟩ :: L) Y' C' W/\C' w.heap.size=us/\∀ k,k≠w.heap.size->C' k=C k:=by
 obtain ⟨W,Y',C',rfl,h2,h3,h4,h5,h6⟩:=h.add1 N ts zs ty hz;obtain ⟨h7,h8⟩:=h4.sets (i:=0) rfl (hu.go h3 (l_));exact ⟨_,Y',_,rfl,by rw [setCells_size];exact h2,h3.trans h8,h7,upd_same _ _ _,fun k hk=>by rw [ad_ _ _ hk];exact h6 k hk⟩
structure EI (P:Program) (t et:TypeId) (e:List CT) (bytes:Nat):Prop where
 ht:P.underlying t=some (.slice et)
 hi:∃ i z,P.info? et=some i/\i.zero=some z/\i.size=e.length/\i.bytes=bytes/\z.cells.size=e.length
 hsz:0<e.length
theorem EI.of {P:Program} {t et:TypeId} {e:List CT} {bytes:Nat} {z:Value} (ht:P.underlying t=some (.slice et)) (hi:(P.info? et).map (fun i=>(i.zero,i.size,i.bytes))=some (some z,e.length,bytes)) (hz:z.cells.size=e.length) (hsz:0<e.length):EI P t et e bytes:=by
 cases h:P.info? et with
 | none=>rw [h] at hi;cases hi
 | some i =>
  rw [h] at hi;simp at hi;exact ⟨ht,⟨i,z,h,hi.1,hi.2.1,hi.2.2,hz⟩,hsz⟩
section
variable {P:Program} {X:NP} {K n m c d bytes:Nat} {A B:OA} {e:List CT} {t et:TypeId}
theorem run_append_sh (w:World) (ty:TypeId) (E:EI P t et e bytes) (hd:SlT w X K e A n c) (hs:SlT w X K e B m d) (hf:m=0\/c<n+m) (hX:∀ k,X k->k<w) (hK:n+m<=K) (h63:K<=maxLen) (hb:K*bytes<=140737488355328) :
  ∃ A' c' w',(Builtin.append_ #[t,t] ty #[.slice A n c,.slice B m d]).run P w=.ok (.slice A' (n+m) c') w'/\SlT w' X K e A' (n+m) c'/\Below w w w':=by
 obtain ⟨i,z,hi,hz,h1,h2,h3⟩:=E.hi;by_cases hm:m=0
 ·subst hm;exact ⟨A,c,w,cv_ w t ty et i E.ht hi A n c hd.cap B d,hd,b_⟩
 obtain ⟨A',c',w',hr,ho,A0⟩:=run_append_full (P:=P) w t ty et i z bytes e X K E.ht hi hz h1 h2 h3 E.hsz A n c hd B m d hs o_ o_ hX o_ (Nat.le_trans (Nat.mul_le_mul_right _ hK) hb);exact ⟨A',c',w',hr,ho.slT hX hK,A0⟩
variable {ops:Array Oper} {rest:List Oper} {o:Oper} {a:Act} {w:World} {Q:Exit->Act->World->Prop}
theorem cg_ {K0:Act->World->Prop} {El:Prop} (hgd:o.guard=none) (s x:Operand) (ho:o.op=.call { callee:=.builtin .append,args:=#[s,x],argTypes:=#[t,t] }) (E:EI P t et e bytes) (X:NP) (K:Nat)
  (A:OA) (n c:Nat) (hs:a.eval s=.slice A n c) (hd:SlT w X K e A n c) (B:OA) (m d:Nat) (hx:a.eval x=.slice B m d) (hsrc:SlT w X K e B m d) (hf:m=0\/c<n+m) (hX:∀ k,X k->k<w) (hK:n+m<=K) (h63:K<=maxLen) (hb:K*bytes<=140737488355328)
  (h:∀ A' c' w',SlT w' X K e A' (n+m) c'->Below w w w'->K0 (a.put o.dst (.slice A' (n+m) c')) w'):if Region.wanted o (yielded ops a.tmps)=true then Oper.wp P o a w K0 Q else El:=by
 obtain ⟨A',c',w',hr,h1,h2⟩:=run_append_sh w o.type E hd hsrc hf hX hK h63 hb;have hw:Region.wanted o (yielded ops a.tmps)=true:=by simp [Region.wanted,hgd]
 exact ty_
theorem wpList_append_sh (hgd:o.guard=none) (s x:Operand) (ho:o.op=.call { callee:=.builtin .append,args:=#[s,x],argTypes:=#[t,t] }) (E:EI P t et e bytes) (X:NP) (K:Nat)
  (A:OA) (n c:Nat) (hs:a.eval s=.slice A n c) (hd:SlT w X K e A n c) (B:OA) (m d:Nat) (hx:a.eval x=.slice B m d) (hsrc:SlT w X K e B m d) (hf:m=0\/c<n+m) (hX:∀ k,X k->k<w) (hK:n+m<=K) (h63:K<=maxLen) (hb:K*bytes<=140737488355328)
  (h:∀ A' c' w',SlT w' X K e A' (n+m) c'->Below w w w'->wpList P ops Q rest (a.put o.dst (.slice A' (n+m) c')) w'):wpList P ops Q (o :: rest) a w:=by
 obtain ⟨A',c',w',hr,h1,h2⟩:=run_append_sh w o.type E hd hsrc hf hX hK h63 hb;exact Lib.wpList_append_run w hgd s x t t ho _ _ hs hx _ _ hr (h A' c' w' h1 h2)
theorem EI.high3 (E:EI P t et e bytes) {A:OA} {n c k:Nat} (hk:k<=c) (w:World):(Instr.slice t (.slice A n c) none (some (i_ k)) (some (i_ k))).run P w=.ok (.slice A k k) w:=by
 obtain ⟨i,z,hi,_⟩:=E.hi;exact eu_ E.ht hi hk w
theorem EI.low (E:EI P t et e bytes) {A:OA} {n c k:Nat} (hk:k<=n) (w:World):(Instr.slice t (.slice A n c) (some (i_ k)) none none).run P w=.ok (.slice (cutA A c k e.length) (n - k) (c - k)) w:=by
 obtain ⟨i,z,hi,_,h1,_⟩:=E.hi;rw [el_ E.ht hi hk,h1]
end
structure SlP (w:World) (X:NP) (K:Nat) (p:VL->Prop) (e:List CT) (A:OA) (n c:Nat):Prop where
 sl:SlT w X K e A n c
 ok:∀ k,k<n->∃ g o vs,A=some (f_ g o)/\VTs w X K e vs/\(∀ j u,vs[j]?=some u->w.cell? ⟨g,o+(k*e.length+j),none⟩=some u)/\p vs
section
variable {X Y Y':NP} {w w':World} {K K' n c k:Nat} {p:VL->Prop} {e:List CT} {A:OA} {v:Value}
theorem VT.dm_ (h:VT w X K (.lst p e) v):∃ A n c,v=.slice A n c/\SlP w X K p e A n c:=by
 cases h with
 | lnil=>exact ⟨none,0,0,rfl,⟨Nat.zero_le _,l_,o_,fun _=>⟨rfl,rfl⟩,fun _ h=>by cases h⟩,fun k hk=>o_⟩
 | lst _ _ g o n c f hg hX hn hc hm hf ht hp =>
  refine ⟨_,n,c,rfl,⟨hn,hc,hm,x_,(fun ad h=>by injection h with h;exact ⟨g,o,h.symm,hg,hX,f,hf,ht⟩)⟩,fun k hk=>⟨g,o,_,rfl,⟨zk_,fun j t hj=>⟨f k j,?_,ht k j t hk hj⟩⟩,fun j u hu=>?_,hp k hk⟩⟩
  ·have:j<e.length:=(e_ hj).1;simp [this]
  have hj:j<e.length:=by have:=(e_ hu).1;simpa using this
  simp [hj] at hu;subst hu;exact hf k j _ hk (ge_ hj)
theorem SlP.vt (h:SlP w X K p e A n c):VT w X K (.lst p e) (.slice A n c):=by
 cases A with
 | none=>obtain ⟨rfl,rfl⟩:=h.sl.nul rfl;exact .lnil p e
 | some ad =>
  obtain ⟨g,o,rfl,hg,hX,_⟩:=h.sl.at_ _ rfl;obtain ⟨l,hl,hR⟩:=list_choose (n:=n) (R:=fun k vs=>VTs w X K e vs/\(∀ j u,vs[j]?=some u->w.cell? ⟨g,o+(k*e.length+j),none⟩=some u)/\p vs) (fun k hk=>by
   obtain ⟨g',o',vs,hA,h1,h2,h3⟩:=h.ok k hk
   injection hA with hA
   injection hA with q1 q2
   subst q1 q2
   exact ⟨vs,h1,h2,h3⟩)
  refine .lst p e g o n c (fun k j=>((l[k]?).getD [])[j]?.getD undef) hg hX h.sl.le h.sl.cap h.sl.max (fun k j t hk hj=>?_) (fun k j t hk hj=>?_) (fun k hk=>?_)
  ·obtain ⟨h1,h2,h3⟩:=hR k _ (ge_ (by omega:k<l.length));obtain ⟨u,hu,_⟩:=h1.2 j t hj;rw [ge_ (by omega:k<l.length),Option.getD_some,hu];exact h2 j u hu
  ·obtain ⟨h1,h2,h3⟩:=hR k _ (ge_ (by omega:k<l.length));obtain ⟨u,hu,hv⟩:=h1.2 j t hj;rw [ge_ (by omega:k<l.length),Option.getD_some,hu];exact hv
  obtain ⟨h1,h2,h3⟩:=hR k _ (ge_ (by omega:k<l.length));rw [ge_ (by omega:k<l.length),Option.getD_some];have:(List.range e.length).map (fun j=>(l[k]'o_)[j]?.getD undef)=l[k]'o_:=by
   apply List.ext_getElem?;intro j;by_cases hj:j<e.length
   ·have A0:j<(l[k]'o_).length:=by rw [h1.1];exact hj
    rw [List.getElem?_map,List.getElem?_range hj,Option.map_some,ge_ A0,Option.getD_some]
   rw [List.getElem?_eq_none zm_,List.getElem?_eq_none (by rw [h1.1];omega)]
  rw [this];exact h3
theorem SlP.go (h:SlP w Y K p e A n c) (u:Up w Y w' Y') (hK:K<=K'):SlP w' Y' K' p e A n c:=by
 obtain ⟨A',n',c',e',h'⟩:=(h.vt.go u hK).dm_;exact ud_
theorem SlP.below (h:SlP w Y K p e A n c) (hb:Below w w w'):SlP w' Y K p e A n c:=h.go (.of_below hb) (l_)
theorem SlP.nil (w:World) (X:NP) (K:Nat) (p:VL->Prop) (e:List CT):SlP w X K p e none 0 0:=⟨⟨Nat.zero_le _,l_,o_,fun _=>⟨rfl,rfl⟩,fun _ h=>by cases h⟩,fun k hk=>o_⟩
theorem SlP.el (h:SlP w X K p e A n c) (hk:k<n):∃ g o vs,A=some (f_ g o)/\g<w/\¬X g/\VTs w X K e vs/\p vs/\∀ j u,vs[j]?=some u->w.cell? ⟨g,o+k*e.length+j,none⟩=some u:=by
 obtain ⟨g,o,vs,rfl,h1,h2,h3⟩:=h.ok k hk;obtain ⟨g',o',hA,hg,hX,_⟩:=h.sl.at_ _ rfl;injection hA with q1 q2;subst q1 q2;exact ⟨g,o,vs,rfl,hg,hX,h1,h3,fun j u hu=>by rw [Nat.add_assoc];exact h2 j u hu⟩
theorem SlP.weak {p':VL->Prop} {e':List CT} (h:SlP w X K p e A n c) (hl:e'.length=e.length) (hp:∀ vs,VTs w X K e vs->p vs->VTs w X K e' vs/\p' vs):SlP w X K p' e' A n c:=by
 have A1:∀ k,k<n->∃ g o vs,A=some (f_ g o)/\VTs w X K e' vs/\(∀ j u,vs[j]?=some u->w.cell? ⟨g,o+(k*e'.length+j),none⟩=some u)/\p' vs:=fun k hk=>by
  obtain ⟨g,o,vs,hA,h1,h2,h3⟩:=h.ok k hk;exact ⟨g,o,vs,hA,(hp vs h1 h3).1,by rw [hl];exact h2,(hp vs h1 h3).2⟩
 refine ⟨⟨h.sl.le,h.sl.cap,h.sl.max,h.sl.nul,fun ad hA=>?_⟩,A1⟩;obtain ⟨g,o,rfl,hg,hX,f,hf,ht⟩:=h.sl.at_ ad hA;refine ⟨g,o,rfl,hg,hX,f,fun k j t hk hj=>?_,fun k j t hk hj=>?_⟩
 ·rw [hl];have:j<e.length:=by rw [<-hl];exact (e_ hj).1
  exact hf k j _ hk (ge_ this)
 have A2:j<e.length:=by rw [<-hl];exact (e_ hj).1
 obtain ⟨g',o',vs,A0,h1,h2,h3⟩:=A1 k hk;rw [hA] at A0;injection A0 with A0;injection A0 with q1 q2;subst q1 q2;obtain ⟨u,hu,hv⟩:=h1.2 j t hj;have h4:=h2 j u hu;rw [hl,hf k j _ hk (ge_ A2)] at h4;injection h4 with h4;rw [h4];exact hv
theorem SlP.da_ {base:Nat} {et:TypeId} {xs:VL} (ho:w.ownsRow base et e.length (.slice A n c) n xs) (hb:∀ k,X k->k<base) (hn:n<=K)
  (hx:∀ k,k<n->∃ vs,VTs w X K e vs/\(∀ j u,vs[j]?=some u->xs[k*e.length+j]?=some u)/\p vs):SlP w X K p e A n c:=by
 refine ⟨SlT.da_ ho hb hn (fun k j t hk hj=>?_),fun k hk=>?_⟩
 ·obtain ⟨vs,h1,h2,h3⟩:=hx k hk;obtain ⟨u,hu,hv⟩:=h1.2 j t hj;exact ⟨u,h2 j u hu,hv⟩
 obtain ⟨vs,h1,h2,h3⟩:=hx k hk;rcases ho.2 with ⟨h',h''⟩ | ⟨g,cap,cur,h',_⟩
 ·exfalso;injection h' with q1 q2 q3;omega
 injection h' with q1 q2 q3;subst q1;have A0:=(own_src ho).2 _ rfl;refine ⟨g,0,vs,rfl,h1,fun j u hu=>?_,h3⟩;have:=A0 _ u (h2 j u hu)
 rwa [Addr.add_lit] at this
end
/- The shapes of programs. -/
def noP:VL->Prop:=fun _=>False
def pE (vs:VL):Prop:=∃ (kd n:Int) (s:ByteArray) (op:Int) (A:OA) (m c:Nat),vs=[i_ kd,i_ n,.string s,i_ op,.slice A m c]/\(kd=4->1<=m)/\(kd=5->2<=m)/\s.size<=100
def be_:Nat->List CT
 | 0=>[.num,.num,.txt,.num,.lst noP []]
 | d+1=>[.num,.num,.txt,.num,.lst pE (be_ d)]
def nameF : ByteArray := "f".toByteArray
def nameG : ByteArray := "g".toByteArray
def pS (vs:VL):Prop:=∃ (kd:Int) (s f:ByteArray) (n op:Int) (A B C:OA) (m c m1 c1 m2 c2:Nat),vs=[i_ kd,.string s,.string f,i_ n,i_ op,.slice A m c,.slice B m1 c1,.slice C m2 c2]/\(kd=5->2<=m)/\(kd=6->1<=m)/\(kd=3->f=nameF\/f=nameG)/\s.size<=100/\f.size<=100
abbrev dE:Nat:=4
def ah_:Nat->List CT
 | 0=>[.num,.txt,.txt,.num,.num,.lst pE (be_ dE),.lst noP [],.lst noP []]
 | d+1=>[.num,.txt,.txt,.num,.num,.lst pE (be_ dE),.lst pS (ah_ d),.lst pS (ah_ d)]
def strP (v:Value):Prop:=∃ s:ByteArray,v=.string s/\s.size<=100
def db_ (d:Nat):List CT:=[.sat strP,.sl [.sat strP],.lst pS (ah_ d)]
section
variable {X:NP} {w:World} {K:Nat}
theorem ea_ (d:Nat):(be_ d).length=5:=by cases d <;> rfl
theorem cb_ (d:Nat):(ah_ d).length=8:=by cases d <;> rfl
theorem VTs.expr {d:Nat} {vs:VL} (h:VTs w X K (be_ (d+1)) vs):∃ (kd n:Int) (s:ByteArray) (op:Int) (A:OA) (m c:Nat),vs=[i_ kd,i_ n,.string s,i_ op,.slice A m c]/\SlP w X K pE (be_ d) A m c:=by
 obtain ⟨a,r1,rfl,ha,h1⟩:=h.head;obtain ⟨b,r2,rfl,hb,h2⟩:=h1.head;obtain ⟨s,r3,rfl,hs,h3⟩:=h2.head;obtain ⟨o,r4,rfl,ho,h4⟩:=h3.head;obtain ⟨l,r5,rfl,hl,h5⟩:=h4.head;obtain ⟨kd,rfl⟩:=ha.int;obtain ⟨n,rfl⟩:=hb.int;obtain ⟨s,rfl⟩:=hs.str;obtain ⟨op,rfl⟩:=ho.int;obtain ⟨A,m,c,rfl,hp⟩:=hl.dm_;rw [h5.end];exact ⟨kd,n,s,op,A,m,c,rfl,hp⟩
theorem VTs.expr0 {vs:VL} (h:VTs w X K (be_ 0) vs):∃ (kd n:Int) (s:ByteArray) (op:Int) (A:OA) (c:Nat),vs=[i_ kd,i_ n,.string s,i_ op,.slice A 0 c]:=by
 obtain ⟨a,r1,rfl,ha,h1⟩:=h.head;obtain ⟨b,r2,rfl,hb,h2⟩:=h1.head;obtain ⟨s,r3,rfl,hs,h3⟩:=h2.head;obtain ⟨o,r4,rfl,ho,h4⟩:=h3.head;obtain ⟨l,r5,rfl,hl,h5⟩:=h4.head;obtain ⟨kd,rfl⟩:=ha.int;obtain ⟨n,rfl⟩:=hb.int;obtain ⟨s,rfl⟩:=hs.str;obtain ⟨op,rfl⟩:=ho.int;obtain ⟨A,m,c,rfl,hp⟩:=hl.dm_;have hm:m=0:=by
  rcases Nat.eq_zero_or_pos m with h | h
  ·exact h
  obtain ⟨_,_,_,_,_,_,h3⟩:=hp.ok 0 h;exact h3.elim
 subst hm;rw [h5.end];exact ⟨kd,n,s,op,A,c,rfl⟩
theorem exprT_up (d:Nat):∀ vs,VTs w X K (be_ d) vs->pE vs->VTs w X K (be_ (d+1)) vs/\pE vs:=by
 induction d with
 | zero =>
  intro vs h hp;refine ⟨?_,hp⟩;obtain ⟨a,r1,rfl,ha,h1⟩:=h.head;obtain ⟨b,r2,rfl,hb,h2⟩:=h1.head;obtain ⟨s,r3,rfl,hs,h3⟩:=h2.head;obtain ⟨o,r4,rfl,ho,h4⟩:=h3.head;obtain ⟨l,r5,rfl,hl,h5⟩:=h4.head;rw [h5.end];obtain ⟨A,m,c,rfl,hs⟩:=hl.dm_;have hm:m=0:=by
   rcases Nat.eq_zero_or_pos m with h | h
   ·exact h
   obtain ⟨_,_,_,_,_,_,h3⟩:=hs.ok 0 h;exact h3.elim
  subst hm;exact VTs.cons ha (VTs.cons hb (VTs.cons ‹_› (VTs.cons ho (VTs.cons (SlP.vt ⟨⟨Nat.zero_le _,Nat.zero_le _,hs.sl.max,hs.sl.nul,fun ad hA=>by
   obtain ⟨g,o,e,hg,hX,f,_⟩:=hs.sl.at_ ad hA
   exact ⟨g,o,e,hg,hX,f,fun k j t hk=>o_,fun k j t hk=>o_⟩⟩,fun k hk=>o_⟩) VTs.nil))))
 | succ d ih =>
  intro vs h hp;refine ⟨?_,hp⟩;obtain ⟨a,r1,rfl,ha,h1⟩:=h.head;obtain ⟨b,r2,rfl,hb,h2⟩:=h1.head;obtain ⟨s,r3,rfl,hs,h3⟩:=h2.head;obtain ⟨o,r4,rfl,ho,h4⟩:=h3.head;obtain ⟨l,r5,rfl,hl,h5⟩:=h4.head;rw [h5.end];obtain ⟨A,m,c,rfl,A0⟩:=hl.dm_;exact VTs.cons ha (VTs.cons hb (VTs.cons hs (VTs.cons ho (VTs.cons (A0.weak (by rw [ea_,ea_]) ih).vt VTs.nil))))
theorem exprT_le {d d':Nat} (h:d<=d') {vs:VL} (hv:VTs w X K (be_ d) vs) (hp:pE vs):VTs w X K (be_ d') vs:=by
 induction h with
 | refl=>exact hv
 | step _ ih=>exact (exprT_up _ vs ih hp).1
theorem VTs.stmt {d:Nat} {vs:VL} (h:VTs w X K (ah_ (d+1)) vs):∃ (kd:Int) (s f:ByteArray) (n op:Int) (A B C:OA) (m c m1 c1 m2 c2:Nat),vs=[i_ kd,.string s,.string f,i_ n,i_ op,.slice A m c,.slice B m1 c1,.slice C m2 c2]/\SlP w X K pE (be_ dE) A m c/\SlP w X K pS (ah_ d) B m1 c1/\SlP w X K pS (ah_ d) C m2 c2:=by
 obtain ⟨a,r1,rfl,ha,h1⟩:=h.head;obtain ⟨s,r2,rfl,hs,h2⟩:=h1.head;obtain ⟨f,r3,rfl,hf,h3⟩:=h2.head;obtain ⟨n,r4,rfl,hn,h4⟩:=h3.head;obtain ⟨o,r5,rfl,ho,h5⟩:=h4.head;obtain ⟨l,r6,rfl,hl,h6⟩:=h5.head;obtain ⟨x,r7,rfl,hx,h7⟩:=h6.head;obtain ⟨y,r8,rfl,hy,h8⟩:=h7.head;obtain ⟨kd,rfl⟩:=ha.int;obtain ⟨s,rfl⟩:=hs.str;obtain ⟨f,rfl⟩:=hf.str;obtain ⟨n,rfl⟩:=hn.int;obtain ⟨op,rfl⟩:=ho.int;obtain ⟨A,m,c,rfl,hp⟩:=hl.dm_;obtain ⟨B,m1,c1,rfl,A0⟩:=hx.dm_;obtain ⟨C,m2,c2,rfl,A1⟩:=hy.dm_;rw [h8.end];exact ⟨kd,s,f,n,op,A,B,C,m,c,m1,c1,m2,c2,rfl,hp,A0,A1⟩
theorem SlP.none_of {e:List CT} {A:OA} {n c:Nat} (h:SlP w X K noP e A n c):n=0:=by
 rcases Nat.eq_zero_or_pos n with h1 | h1
 ·exact h1
 obtain ⟨_,_,_,_,_,_,h3⟩:=h.ok 0 h1;exact h3.elim
theorem SlP.empty {p p':VL->Prop} {e e':List CT} {A:OA} {c:Nat} (h:SlP w X K p e A 0 c):SlP w X K p' e' A 0 c :=
 ⟨⟨Nat.zero_le _,Nat.zero_le _,h.sl.max,h.sl.nul,fun ad hA=>by
   obtain ⟨g,o,e,hg,hX,f,_⟩:=h.sl.at_ ad hA
   exact ⟨g,o,e,hg,hX,f,fun k j t hk=>o_,fun k j t hk=>o_⟩⟩,fun k hk=>o_⟩
theorem VTs.stmt0 {vs:VL} (h:VTs w X K (ah_ 0) vs):∃ (kd:Int) (s f:ByteArray) (n op:Int) (A B C:OA) (m c c1 c2:Nat),vs=[i_ kd,.string s,.string f,i_ n,i_ op,.slice A m c,.slice B 0 c1,.slice C 0 c2]/\SlP w X K pE (be_ dE) A m c/\SlP w X K noP [] B 0 c1/\SlP w X K noP [] C 0 c2:=by
 obtain ⟨a,r1,rfl,ha,h1⟩:=h.head;obtain ⟨s,r2,rfl,hs,h2⟩:=h1.head;obtain ⟨f,r3,rfl,hf,h3⟩:=h2.head;obtain ⟨n,r4,rfl,hn,h4⟩:=h3.head;obtain ⟨o,r5,rfl,ho,h5⟩:=h4.head;obtain ⟨l,r6,rfl,hl,h6⟩:=h5.head;obtain ⟨x,r7,rfl,hx,h7⟩:=h6.head;obtain ⟨y,r8,rfl,hy,h8⟩:=h7.head;obtain ⟨kd,rfl⟩:=ha.int;obtain ⟨s,rfl⟩:=hs.str;obtain ⟨f,rfl⟩:=hf.str;obtain ⟨n,rfl⟩:=hn.int;obtain ⟨op,rfl⟩:=ho.int;obtain ⟨A,m,c,rfl,hp⟩:=hl.dm_;obtain ⟨B,m1,c1,rfl,A0⟩:=hx.dm_;obtain ⟨C,m2,c2,rfl,A1⟩:=hy.dm_;obtain rfl:=A0.none_of;obtain rfl:=A1.none_of;rw [h8.end];exact ⟨kd,s,f,n,op,A,B,C,m,c,c1,c2,rfl,hp,A0,A1⟩
theorem vts_stmt {d:Nat} {kd:Int} {s f:ByteArray} {n op:Int} {A B C:OA} {m c m1 c1 m2 c2:Nat} (h:SlP w X K pE (be_ dE) A m c) (h1:SlP w X K pS (ah_ d) B m1 c1) (h2:SlP w X K pS (ah_ d) C m2 c2):VTs w X K (ah_ (d+1)) [i_ kd,.string s,.string f,i_ n,i_ op,.slice A m c,.slice B m1 c1,.slice C m2 c2] :=
 VTs.cons (.num _) (VTs.cons (.txt _) (VTs.cons (.txt _) (VTs.cons (.num _) (VTs.cons (.num _) (VTs.cons h.vt (VTs.cons h1.vt (VTs.cons h2.vt VTs.nil)))))))
theorem vts_stmt0 {kd:Int} {s f:ByteArray} {n op:Int} {A B C:OA} {m c c1 c2:Nat} (h:SlP w X K pE (be_ dE) A m c) (h1:SlP w X K noP [] B 0 c1) (h2:SlP w X K noP [] C 0 c2):VTs w X K (ah_ 0) [i_ kd,.string s,.string f,i_ n,i_ op,.slice A m c,.slice B 0 c1,.slice C 0 c2] :=
 VTs.cons (.num _) (VTs.cons (.txt _) (VTs.cons (.txt _) (VTs.cons (.num _) (VTs.cons (.num _) (VTs.cons h.vt (VTs.cons h1.vt (VTs.cons h2.vt VTs.nil)))))))
theorem stmtT_up (d:Nat):∀ vs,VTs w X K (ah_ d) vs->pS vs->VTs w X K (ah_ (d+1)) vs/\pS vs:=by
 induction d with
 | zero =>
  intro vs h hp;obtain ⟨kd,s,f,n,op,A,B,C,m,c,c1,c2,rfl,h1,h2,h3⟩:=h.stmt0;exact ⟨vts_stmt h1 h2.empty h3.empty,hp⟩
 | succ d ih =>
  intro vs h hp;obtain ⟨kd,s,f,n,op,A,B,C,m,c,m1,c1,m2,c2,rfl,h1,h2,h3⟩:=h.stmt;exact ⟨vts_stmt h1 (h2.weak (by rw [cb_,cb_]) ih) (h3.weak (by rw [cb_,cb_]) ih),hp⟩
theorem stmtT_le {d d':Nat} (h:d<=d') {vs:VL} (hv:VTs w X K (ah_ d) vs) (hp:pS vs):VTs w X K (ah_ d') vs:=by
 induction h with
 | refl=>exact hv
 | step _ ih=>exact (stmtT_up _ vs ih hp).1
end
theorem Fr.cx_ {X Z:NP} {w0 w w':World} {L:List LV} {Y:NP} {C:Nat->VL} {i j b:Nat} {K:Nat->Nat} {ts:List CT} {ow:Nat->Option TypeId} {t:CT} {et:TypeId} {v:Value} (h:Fr X Z w0 L Y C w) (hp:L[i]?=some ⟨b,K,ts,ow⟩) (hj:ts[j]?=some t) (ho:ow j=some et) (hC:(C b)[j]?=some v) (hg:w.grownBy w' v.ownBlock):Bx w' b (C b):=by
 obtain ⟨e,A,n,c,h1,h2,h3,h4,h5⟩:=h.row _ (Fr.mem hp) j t et hj ho;rw [show (C b)[j]?=some (.slice A n c) from h2] at hC;injection hC with hC;subst hC;exact (h.box hp).kp (X:=fun k=>(Value.slice A n c).ownBlock=some k) ((Kp.refl _ w).grown hg (fun g hg=>.inl hg)) (fun he=>(h5 b he).2.2 _ (Fr.mem hp) rfl)
theorem Fr.grown_any {X Z:NP} {w0 w w':World} {L:List LV} {Y:NP} {C:Nat->VL} {i j b:Nat} {K:Nat->Nat} {ts:List CT} {ow:Nat->Option TypeId} {t:CT} {et:TypeId} {v:Value} (h:Fr X Z w0 L Y C w) (hp:L[i]?=some ⟨b,K,ts,ow⟩) (hj:ts[j]?=some t) (ho:ow j=some et) (hC:(C b)[j]?=some v) (hg:w.grownBy w' v.ownBlock) (q:Nat) (p:LV) (hq:L[q]?=some p):Bx w' p.b (C p.b):=by
 obtain ⟨e,A,n,c,h1,h2,h3,h4,h5⟩:=h.row _ (Fr.mem hp) j t et hj ho;rw [show (C b)[j]?=some (.slice A n c) from h2] at hC;injection hC with hC;subst hC;exact (h.blk p (List.mem_of_getElem? hq)).2.2.1.kp (X:=fun k=>(Value.slice A n c).ownBlock=some k) ((Kp.refl _ w).grown hg (fun g hg=>.inl hg)) (fun he=>(h5 p.b he).2.2 _ (List.mem_of_getElem? hq) rfl)
theorem OwT.any {w:World} {base K n c:Nat} {et:TypeId} {e:List CT} {X:NP} {A:OA} (h:OwT w base et e X K A n c) (hn:n<=K):SlT w (fun _=>False) K e A n c :=
 (h.sub (Y':=fun _=>False) (fun _ _ h=>h.elim) (l_)).slT (fun _ h=>h.elim) hn
theorem results0 {P:Program} {fn:Func} (h:fn.results=#[]) (tmps:Array Value) (w:World):(results fn tmps).run P w=.ok (.tuple #[]) w:=by
 unfold results;rw [h];simp
theorem end0 {P:Program} {fn:Func} {R:Ending->World->Prop} {a:Act} {w:World} (hr:fn.results=#[]) (hd:a.defers=[]) (hR:R (.returned (.tuple #[])) w):bodyPost P fn R .normal a w:=bodyPost_end (results0 hr _ _) hd hR
theorem ret0 {P:Program} {fn:Func} {R:Ending->World->Prop} {a:Act} {w:World} (hr:fn.results=#[]) (hd:a.defers=[]) (hR:R (.returned (.tuple #[])) w):bodyPost P fn R .ret a w:=bodyPost_ret (results0 hr _ _) hd hR
end Go.Proofs.YtfolidlmgfhkiaaGreat
namespace Go.Proofs.YtfolidlmgfhkiaaGreat
open Go.RowKit Go.Proofs.Tryz
theorem av_:(prog.info? 65).map (·.size)=some af_.length:=by kernel_rfl
theorem isz_62:(prog.info? 62).map (·.size)=some cpuT.length:=by kernel_rfl
theorem isz_145:(prog.info? 145).map (·.size)=some effT.length:=by kernel_rfl
theorem dy_:(prog.info? 40).map (·.size)=some comT.length:=by kernel_rfl
theorem ei_cell:EI prog 54 87 aq_ 32:=EI.of (z:=.agg #[i_ 0,i_ 0,.bool false,i_ 0]) underlying54 k_ rfl d_
theorem ei_obj:EI prog 33 90 objT 32:=EI.of (z:=.agg #[i_ 0,.slice none 0 0]) underlying33 k_ rfl d_
theorem by_:EI prog 63 174 bn_ 40:=EI.of (z:=.agg #[i_ 0,i_ 0,i_ 0,.bool false,i_ 0]) underlying63 k_ rfl d_
theorem ei_act:EI prog 36 152 actT 24:=EI.of (z:=.agg #[.bool false,i_ 0,i_ 0]) underlying36 k_ rfl d_
section
variable {X:NP} {w:World} {K:Nat}
theorem cs_ (w:World) (X:NP) (K:Nat) (e:List CT):SlT w X K e none 0 0:=⟨Nat.zero_le _,l_,o_,fun _=>⟨rfl,rfl⟩,fun _ h=>by cases h⟩
theorem vts1 {A:OA} {n c:Nat} {e:List CT} (h:SlT w X K e A n c):VTs w X K [.sl e] [.slice A n c]:=VTs.cons h.vt VTs.nil
theorem vtsval (b:Bool) (n:Int):VTs w X K valT [.bool b,i_ n]:=VTs.cons (.tru _) (VTs.cons (.num _) VTs.nil)
end
end Go.Proofs.YtfolidlmgfhkiaaGreat
