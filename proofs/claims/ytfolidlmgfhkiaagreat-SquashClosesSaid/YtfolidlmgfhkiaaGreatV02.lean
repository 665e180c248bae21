/- Lemmas on functions of the program, under the conditions that each states. -/
import Derived.Test.YtfolidlmgfhkiaaGreatV01
import Derived.ArgAppend
set_option linter.unusedVariables false
set_option linter.unusedSimpArgs false
set_option maxRecDepth 100000
set_option maxHeartbeats 4000000
namespace Go.Proofs.YtfolidlmgfhkiaaGreat
open Go.RowKit
section
variable {X:NP} {w:World} {K:Nat}
theorem list_choose {α:Type} {n:Nat} {R:Nat->α->Prop} (h:∀ k,k<n->∃ x,R k x):∃ l:List α,l.length=n/\∀ (k:Nat) (x:α),l[k]?=some x->R k x:=by
 induction n with
 | zero=>exact ⟨[],rfl,fun k x hx=>by simp at hx⟩
 | succ n ih =>
  obtain ⟨l,hl,hR⟩:=ih (fun k hk=>h k o_);obtain ⟨x,hx⟩:=h n o_;refine ⟨l ++ [x],by simp [hl],fun k y hy=>?_⟩;by_cases hk:k<n
  ·rw [List.getElem?_append_left o_] at hy;exact hR k y hy
  rw [List.getElem?_append_right o_,hl] at hy;have A0:k=n:=by
   have:=(e_ hy).1;simp at this;omega
  subst A0;simp at hy;subst hy;exact hx
theorem SlT.list {α:Type} {e:List CT} {A:OA} {n c:Nat} (cells:α->VL) (P:α->Prop) (h:SlT w X K e A n c) (hc:∀ vs,VTs w X K e vs->∃ x:α,cells x=vs/\P x):∃ l:List α,Sl w w e.length cells A n l/\∀ x ∈ l,P x:=by
 rcases Nat.eq_zero_or_pos n with rfl | hn
 ·exact ⟨[],Sl.nil,fun x hx=>by simp at hx⟩
 obtain ⟨g,o,hA,hg,hX,_⟩:=h.mt hn;subst hA;obtain ⟨l,hl,hR⟩:=list_choose (n:=n) (R:=fun k x=>P x/\∀ j u,(cells x)[j]?=some u->w.cell? ⟨g,o+(k*e.length+j),none⟩=some u) (fun k hk=>by
  obtain ⟨g',o',A0,_,_,vs,A1,hm⟩:=h.mt hk
  injection A0 with A0
  injection A0 with h1 h2
  subst h1 h2
  obtain ⟨x,hx,hP⟩:=hc vs A1
  exact ⟨x,hP,fun j u hu=>by rw [hx] at hu;have:=hm j u hu;rwa [Nat.add_assoc] at this⟩)
 refine ⟨l,⟨hl,fun _=>⟨g,o,rfl,hg,fun i x hx j u hu=>(hR i x hx).2 j u hu⟩⟩,fun x hx=>?_⟩;obtain ⟨k,hk⟩:=List.getElem?_of_mem hx;exact (hR k x hk).1
theorem VTs.len {ts:List CT} {vs:VL} (h:VTs w X K ts vs):vs.length=ts.length:=h.1
theorem VTs.at {ts:List CT} {vs:VL} {t:CT} (h:VTs w X K ts vs) {j:Nat} (hj:ts[j]?=some t):∃ u,vs[j]?=some u/\VT w X K t u:=h.2 j t hj
theorem VTs.num {ts:List CT} {vs:VL} (h:VTs w X K ts vs) {j:Nat} (hj:ts[j]?=some .num):∃ n,vs[j]?=some (i_ n):=by
 obtain ⟨u,hu,hv⟩:=h.2 j _ hj;obtain ⟨n,rfl⟩:=hv.int;exact ⟨n,hu⟩
theorem VTs.tru {ts:List CT} {vs:VL} (h:VTs w X K ts vs) {j:Nat} (hj:ts[j]?=some .tru):∃ n,vs[j]?=some (.bool n):=by
 obtain ⟨u,hu,hv⟩:=h.2 j _ hj;obtain ⟨n,rfl⟩:=hv.bool;exact ⟨n,hu⟩
theorem VTs.slc {ts e:List CT} {vs:VL} (h:VTs w X K ts vs) {j:Nat} (hj:ts[j]?=some (.sl e)):∃ A n c,vs[j]?=some (.slice A n c)/\SlT w X K e A n c:=by
 obtain ⟨u,hu,hv⟩:=h.2 j _ hj;obtain ⟨A,n,c,rfl,hs⟩:=hv.slice;exact ⟨A,n,c,hu,hs⟩
end
end Go.Proofs.YtfolidlmgfhkiaaGreat
namespace Go.Proofs.YtfolidlmgfhkiaaGreat.Sq
open Go.RowKit Go.Proofs.Tryz
def intCells (x:Int):VL:=[i_ x]
theorem dec_mem (l:List Int) (y:Int):decide (y ∈ l)=l.contains y:=by rw [Bool.eq_iff_iff,List.contains_iff_mem];simp
theorem index_any (A:OA) (n c:Nat) (l:List Int) (x:Int) (w:World) (hs:Sl w w 1 intCells A n l) (hn:n<=1000000) :
  Calls prog 90 #[.slice A n c,i_ x] w fun e w'=>(∃ q:Int,e=.returned (i_ q)/\(q ≥ 0↔x ∈ l))/\Below w w w':=by
 have HL:=q_ hs.len;go_enter func90,ntmps90;go_wp2_with fail;go_loopw [8] (fun i wr=>∃ k:Nat,k<=n/\i=i_ k/\Hid (∀ (i:Nat) (y:Int),i<k->l[i]?=some y->y≠x)/\Below w w wr) (fun i _=>n - (intOf i).toNat)
 case atStart=>exact ⟨0,Nat.zero_le _,rfl,xv_,b_⟩
 obtain ⟨k,hk,rfl,A1,hb⟩:=hrel;by_cases hlt:k<n
 ·obtain ⟨ab,ao,rfl,A2,A0⟩:=hs.at_ o_;obtain ⟨y,hy⟩:∃ y,l[k]?=some y:=⟨_,ge_ z8_⟩;have c0:wr.cell? ⟨ab,ao+k,none⟩=some (i_ y):=by have h:=(belc hb A2).trans (A0 k y hy 0 _ rfl);rwa [Nat.mul_one,Nat.add_zero] at h
  have HY:=q_ hy;clear A0 hy;by_cases hq:x=y
  ·subst hq;have HE:=q_ (List.mem_of_getElem? HY.o);go_wp2;go_ret;exact ⟨⟨k,rfl,by simp [HE.o]⟩,hb⟩
  have HQ:=q_ hq;go_wp2;go_roundw
  case rel =>
   refine ⟨k+1,o_,zb_,fun i z hi hz=>?_,hb⟩;by_cases hik:i=k
   ·subst hik;rw [HY.o] at hz;injection hz with hz;subst hz;exact fun e=>HQ.o e.symm
   exact A1.o i z o_ hz
  case measure=>exact me_
 obtain rfl:k=n:=by omega
 have HE:=h_ (x ∉ l) (fun hx=>by
  obtain ⟨i,hi⟩:=List.getElem?_of_mem hx
  exact A1.o i x (by have:=(e_ hi).1;rw [HL.o] at this;exact this) hi rfl)
 go_wp2;go_ret;exact ⟨⟨-1,rfl,by simp [HE.o]⟩,hb⟩
theorem contains_any (A:OA) (n c:Nat) (l:List Int) (x:Int) (w:World) (hs:Sl w w 1 intCells A n l) (hn:n<=1000000) :
  Calls prog 49 #[.slice A n c,i_ x] w fun e w'=>e=.returned (.bool (l.contains x))/\Below w w w':=by
 go_enter func49,ntmps49;go_wp2_with fail;refine (index_any A n c l x w hs hn).mono ?_;rintro e w1 ⟨⟨q,rfl,hq⟩,hb⟩;go_wp2_with fail;go_ret;refine ⟨?_,hb⟩;have h1:decide (x ∈ l)=l.contains x:=by rw [Bool.eq_iff_iff,List.contains_iff_mem];simp
 rw [<-h1];rfl
end Go.Proofs.YtfolidlmgfhkiaaGreat.Sq
namespace Go.Proofs.YtfolidlmgfhkiaaGreat
open Go.RowKit
section
variable {P:Program} {ops:Array Oper} {Q:Exit->Act->World->Prop} {X:XE} {Inv:World->Prop} {ks:Nat->SK X} {a0 a:Act} {w w':World} {listed:Array Bool}
def StepZ (P:Program) (ops:Array Oper) (Q:Exit->Act->World->Prop) (Inv:World->Prop) (ks:Nat->SK X) (a0:Act) (n:Nat):Prop:=∀ (i:Nat) (o:Oper),i≠n->ops[i]?=some o->∀ a w,Inv w->(∀ t,t ∉ dsts ops->a.tmps.getD t undef=a0.tmps.getD t undef) →
 (∀ j:Nat,o.after.toList.any (fun e=>Region.binds .any e && e.on == j)=true->∀ (oj:Oper) (t:Nat),ops[j]?=some oj->oj.dst=some t->(ks j).p w (a.tmps.getD t undef))->RnK P Q X Inv (ks i) o a w
def LastZ (P:Program) (ops:Array Oper) (Q:Exit->Act->World->Prop) (Inv:World->Prop) (ks:Nat->SK X) (a0:Act) (n:Nat) (ol:Oper):Prop:=∀ a w,Inv w->a.tmps.size=a0.tmps.size->a.defers=a0.defers->(∀ t,t ∉ dsts ops->a.tmps.getD t undef=a0.tmps.getD t undef) →
 (∀ (i:Nat) (o:Oper) (t:Nat),i≠n->ops[i]?=some o->o.dst=some t->(ks i).p w (a.tmps.getD t undef))->∀ K:Act->World->Prop,(∀ a w,Q .normal a w->K a w)->ol.wp P a w K Q
theorem ready_none (h:∀ i,i<ops.size->listed.getD i true=true):Region.ready .any ops listed=[]:=by
 cases hr:Region.ready .any ops listed with
 | nil=>rfl
 | cons x xs =>
  exfalso;obtain ⟨h1,o,ho,_⟩:=mem_ready.1 (show x ∈ Region.ready .any ops listed from by rw [hr];exact .head _);rw [h x (Array.getElem?_eq_some_iff.1 ho).1] at h1;cases h1
theorem any_end {fuel:Nat} (h:∀ i,i<ops.size->listed.getD i true=true) (hQ:Q .normal a w):wpAny P .any ops Q fuel listed a w:=by
 have hr:=ready_none h;cases fuel with
 | zero=>exact ⟨hr,hQ⟩
 | succ f=>exact ⟨fun _=>hQ,fun i hi=>by rw [hr] at hi;cases hi⟩
theorem any_kz {n:Nat} {ol:Oper} (hw:wfOps ops a0.tmps.size=true) (hn:ops.size=n+1) (hol:ops[n]?=some ol) (hall:(List.range n).all (fun j=>ol.after.toList.any (fun e=>Region.binds .any e && e.on == j))=true) (hs:StepZ P ops Q Inv ks a0 n) (hl:LastZ P ops Q Inv ks a0 n ol) :
  ∀ (fuel:Nat) (listed:Array Bool) (a:Act) (w:World),SI ops ks Inv a0 listed a w->listed.getD n true=false->listed.size=ops.size->unl ops.size listed<=fuel->wpAny P .any ops Q fuel listed a w:=by
 intro fuel
 induction fuel with
 | zero =>
  intro listed a w h A0 hz hu;have:=unl_zero (n:=ops.size) (listed:=listed) o_ n o_;rw [A0] at this;cases this
 | succ fuel ih =>
  intro listed a w h A0 hz hu;refine ⟨fun hr=>?_,fun i hi=>?_⟩
  ·have:=all_done hw hz hr n o_;rw [A0] at this;cases this
  obtain ⟨h1,o,ho,h2⟩:=mem_ready.1 hi;have A7:=(Array.getElem?_eq_some_iff.1 ho).1;obtain ⟨hg,_,_⟩:=wf_at hw ho;have A3:∀ j:Nat,o.after.toList.any (fun e=>Region.binds .any e && e.on == j)=true->listed.getD j true=true:=fun j hj=>by
   rw [List.any_eq_true] at hj;obtain ⟨e,he,A2⟩:=hj;rw [<-Array.mem_def] at he;obtain ⟨A5,A2⟩:Region.binds .any e=true/\e.on=j:=by simpa using A2
   subst A2;have h3:=h2 e he A5;have h4:e.on<listed.size:=by
    rcases Nat.lt_or_ge e.on listed.size with h | h
    ·exact h
    rw [Array.getD_eq_getD_getElem?,Array.getElem?_eq_none h] at h3;cases h3
   rw [Array.getD_eq_getD_getElem?,Array.getElem?_eq_getElem h4] at h3 ⊢;exact h3
  refine wpOp_step ho (fun K hK=>?_);simp only [Region.wanted,hg,if_true];by_cases hin:i=n
  ·subst hin;rw [hol] at ho;injection ho with ho;subst ho;have A4:∀ j,j<i->listed.getD j true=true:=fun j hj=>A3 j (List.all_eq_true.1 hall j (List.mem_range.2 hj))
   refine hl a w h.inv h.sz h.df h.out (fun j oj t hj A1 ht=>h.ok j oj t (A4 j w7_) A1 ht) K (fun a' w' hq=>hK _ _ (any_end (fun j hj=>?_) hq));by_cases e:j=i
   ·subst e;rw [Array.getD_eq_getD_getElem?,Array.getElem?_setIfInBounds,if_pos rfl,if_pos o_];rfl
   rw [getD_set_ne true (Ne.symm e)];exact A4 j o_
  refine hs i o hin ho a w h.inv h.out (fun j hj oj t A1 ht=>h.ok j oj t (A3 j hj) A1 ht) K (fun v w' hk he A6 hv=>hK _ _ ?_);have h5:=unl_step (n:=ops.size) A7 h1;exact ih _ _ _ (h.step hw ho hk he A6 hv) (by rw [getD_set_ne true hin];exact A0) yq_ o_
theorem eq_ {id:Nat} (n:Nat) {ol:Oper} (hm:P.follows .mixedOrders=true) (hw:wfOps ops a0.tmps.size=true) (hn:ops.size=n+1) (hol:ops[n]?=some ol) (hall:(List.range n).all (fun j=>ol.after.toList.any (fun e=>Region.binds .any e && e.on == j))=true) (h0:Inv w.drew) (hs:StepZ P ops Q Inv ks a0 n) (hl:LastZ P ops Q Inv ks a0 n ol) :
  (Code.region id ops true).wp P Q a0 w:=by
 refine wp_region_any hm (any_kz hw hn hol hall hs hl ops.size _ a0 _ ⟨h0,rfl,rfl,fun _ _=>rfl,fun i o t A1 ho _=>?_⟩ ?_ t_ ?_)
 ·exfalso;have A0:=(Array.getElem?_eq_some_iff.1 ho).1;rw [Array.getD_eq_getD_getElem?,Array.getElem?_replicate,if_pos A0] at A1;cases A1
 ·rw [Array.getD_eq_getD_getElem?,Array.getElem?_replicate,if_pos o_];rfl
 unfold unl;have:=List.countP_le_length (p:=fun i=>!(Array.replicate ops.size false).getD i true) (l:=List.range ops.size)
 simpa using this
end
end Go.Proofs.YtfolidlmgfhkiaaGreat
namespace Go.Proofs.YtfolidlmgfhkiaaGreat
open Go.RowKit Go.Proofs.Tryz
theorem number_any (n:Int) (w:World):Calls prog 199 #[i_ n] w fun e w'=>e=.returned (.agg #[.bool false,i_ n])/\Below w w w':=by
 go_enter func199,ntmps199;go_wp2;exact bodyPost_ret (v:=.agg #[.bool false,i_ n]) (by simp [results,results199,go_sem]) rfl ⟨rfl,(bel (b_))⟩
theorem flag_any (b:Bool) (w:World):Calls prog 198 #[.bool b] w fun e w'=>(∃ n:Int,e=.returned (.agg #[.bool false,i_ n]))/\Below w w w':=by
 obtain ⟨W,hW,A0,A1,B0⟩:=af_ w [.bool false,i_ 0] 38;have KB:=q_ B0;have KW:=q_ A0;clear B0 A0 A1;go_enter func198,ntmps198;go_upto_region 1 with fail;rw [<-hW];clear hW;go_wp2_with (refine (number_any _ _).mono ?_;rintro e w1 ⟨rfl,hb⟩;have hB:=q_ (KB.o.below hb);have A2:=q_ (KW.o.trans (hb.mono KW.o.size));have r0:=hB.o.2.1 0 _ rfl;have r1:=hB.o.2.1 1 _ rfl;have f0:=hB.o.2.2);all_goals
  exact retC results198 za_ underlying38 rfl k_ (cs:=[_,_]) ((hB.o.set 0 _).set 1 _).whole rfl ⟨⟨_,rfl⟩,(bel A2.o)⟩
theorem Apply_any (op:Int) (a b:Val) (w:World) :
  Calls prog 174 #[i_ op,.agg #[.bool a.ref,i_ a.n],.agg #[.bool b.ref,i_ b.n]] w fun e w'=>(∃ n f:Int,e=.returned (.tuple #[.agg #[.bool false,i_ n],i_ f]))/\Below w w w':=by
 obtain ⟨W,hW,A1,A3,B0,B1,B2⟩:=ei_ w [.bool a.ref,i_ a.n] 38 [.bool b.ref,i_ b.n] 38 [.bool false,i_ 0] 38;have a0:=B0.2.1 0 _ rfl;have a1:=B0.2.1 1 _ rfl;have b0:=B1.2.1 0 _ rfl;have b1:=B1.2.1 1 _ rfl;have r0:=B2.2.1 0 _ rfl;have r1:=B2.2.1 1 _ rfl;have f0:=B2.2.2;have hB:=q_ B2;have A0:=q_ A1;have K:=h_ (∀ w',Below W W w'->Bx w' (w+2) [.bool false,i_ 0]/\Below w w w') (fun w' hb=>⟨B2.below hb,A1.trans (hb.mono A1.size)⟩);clear A3 A1 B0 B1 B2;go_enter func174,ntmps174;go_upto_region 1 with fail;rw [<-hW];clear hW;go_wp2_with (refine (flag_any _ _).mono ?_;rintro e w1 ⟨⟨nf,rfl⟩,hb⟩;obtain ⟨hB,A0⟩:=K.o w1 hb;have hB:=q_ hB;have A0:=q_ A0;have r0:=hB.o.2.1 0 _ rfl;have r1:=hB.o.2.1 1 _ rfl;have f0:=hB.o.2.2);all_goals try (refine cc_ results174 za_ underlying38 rfl k_ (cs:=[_,_]) ((hB.o.set 0 _).set 1 _).whole rfl ?_;exact ⟨⟨_,_,rfl⟩,(bel A0.o)⟩)
 go_quiet (fail);have A2:Below W W (W.drewN nq):=below_drewN (b_) _;have HQ:=q_ A2;have hB:=q_ (K.o _ A2).1;have A0:=q_ (K.o _ A2).2;clear A2;go_wp2_with (first
  | (refine (number_any _ _).mono ?_;rintro e w1 ⟨rfl,hb⟩;obtain ⟨hB,A0⟩:=K.o w1 (HQ.o.trans hb);have hB:=q_ hB;have A0:=q_ A0;have r0:=hB.o.2.1 0 _ rfl;have r1:=hB.o.2.1 1 _ rfl;have f0:=hB.o.2.2)
  | (refine (flag_any _ _).mono ?_;rintro e w1 ⟨⟨nf,rfl⟩,hb⟩;obtain ⟨hB,A0⟩:=K.o w1 (HQ.o.trans hb);have hB:=q_ hB;have A0:=q_ A0;have r0:=hB.o.2.1 0 _ rfl;have r1:=hB.o.2.1 1 _ rfl;have f0:=hB.o.2.2))
 all_goals try (refine cc_ results174 za_ underlying38 rfl k_ (cs:=[_,_]) ((hB.o.set 0 _).set 1 _).whole rfl ?_;exact ⟨⟨_,_,rfl⟩,(bel A0.o)⟩)
 all_goals (exfalso;first | contradiction | omega | simp_all)
theorem Truthy_any (v:Val) (w:World):Calls prog 176 #[.agg #[.bool v.ref,i_ v.n]] w fun e w'=>RB e/\Below w w w':=by
 go_enter func176,ntmps176;exact to_
def RSB (e:Ending):Prop:=∃ s b,e=.returned (.tuple #[.string s,.bool b])
def RNB (e:Ending):Prop:=∃ n b,e=.returned (.tuple #[i_ n,.bool b])
theorem ep_ (op:Int) (w:World):Calls prog 169 #[i_ op] w fun e w'=>RB e/\Below w w w':=by
 go_enter func169,ntmps169;go_wp2;all_goals
  go_ret;exact ⟨⟨_,rfl⟩,(bel (b_))⟩
theorem names_any (w:World):Calls prog 197 #[] w fun e w'=>(∃ g,e=.returned (.slice (some (a_ g)) 12 12)/\g<w'/\Hid (∀ k:Nat,k<12->∃ s,w'.cell? (f_ g k)=some (.string s)))/\Below w w w':=by
 go_enter func197,ntmps197;go_wp2;go_ret;refine ⟨⟨_,rfl,zj_,q_ (fun k hk=>?_)⟩,(bel (b_))⟩;rw [ar_ _ _ _ _ _ t_]
 match k,hk with
 | 0,_=>exact ⟨_,rfl⟩
 | 1,_=>exact ⟨_,rfl⟩
 | 2,_=>exact ⟨_,rfl⟩
 | 3,_=>exact ⟨_,rfl⟩
 | 4,_=>exact ⟨_,rfl⟩
 | 5,_=>exact ⟨_,rfl⟩
 | 6,_=>exact ⟨_,rfl⟩
 | 7,_=>exact ⟨_,rfl⟩
 | 8,_=>exact ⟨_,rfl⟩
 | 9,_=>exact ⟨_,rfl⟩
 | 10,_=>exact ⟨_,rfl⟩
 | 11,_=>exact ⟨_,rfl⟩
theorem Name_any (op:Int) (w:World):Calls prog 170 #[i_ op] w fun e w'=>RSB e/\Below w w w':=by
 by_cases h1:1<=op/\op<=11
 ·obtain ⟨k,rfl⟩:∃ k:Nat,op=k:=⟨op.toNat,o_⟩;have h0:¬((k:Int)<1):=by omega
  have h2:¬(11:Int)<(k:Int):=by omega
  have h3:(k:Int)<12:=by omega
  have H1:=q_ h1;clear h1;go_enter func170,ntmps170;go_wp2_with (refine (names_any _).mono ?_;rintro e w1 ⟨⟨g,rfl,hg,hc⟩,hb⟩;obtain ⟨s,hs⟩:=hc.o k o_);go_ret2;exact ⟨⟨_,_,rfl⟩,(bel hb)⟩
 have h2:op<1\/11<op:=by omega
 go_enter func170,ntmps170;rcases h2 with h2 | h2
 ·go_wp2;go_ret2;exact ⟨⟨_,_,rfl⟩,(bel (b_))⟩
 have h3:¬op<1:=by omega
 go_wp2;go_ret2;exact ⟨⟨_,_,rfl⟩,(bel (b_))⟩
theorem Op_any (s:ByteArray) (w:World):Calls prog 207 #[.string s] w fun e w'=>RNB e/\Below w w w':=by
 go_enter func207,ntmps207;go_upto_region 2 with (refine (names_any _).mono ?_;rintro e w1 ⟨⟨g,rfl,hg,hc⟩,hb⟩;have HB:=q_ hb;clear hb);go_loopw [8] (fun i wr=>∃ k:Nat,k<=12/\i=i_ k/\Hid (wr=w1)) (fun i _=>12 - (intOf i).toNat)
 case atStart=>exact ⟨0,o_,rfl,q_ rfl⟩
 obtain ⟨k,hk,rfl,A1⟩:=hrel;have hw:=A1.o.symm;subst hw;clear A1;by_cases hlt:k<12
 ·have A0:(k:Int)<12:=by omega
  obtain ⟨t,ht⟩:=hc.o k hlt;go_wp2;all_goals first
   | (go_ret2;exact ⟨⟨_,_,rfl⟩,HB.o⟩)
   | (go_roundw
      case rel=>exact ⟨k+1,o_,zb_,q_ ww_⟩
      case measure=>exact me_)
 have A0:¬(k:Int)<12:=by omega
 go_wp2;go_ret2;exact ⟨⟨_,_,rfl⟩,HB.o⟩
theorem SqXO.con (A:OA) (n c:Nat) (l:List Ob) (q:Ob->Bool) (p:Nat) (w:World) (hs:Sl w w 2 Ob.cells A n l) (hn:n<=9223372036854775807)
  (hf:∀ x,x ∈ l->∀ w',Below w w w'->Calls prog 145 #[.agg #[i_ x.id,.slice x.A x.n x.c],.pointer (some (a_ p))] w' fun e w''=>e=.returned (.bool (q x))/\Below w' w' w'') :
  Calls prog 144 #[.slice A n c,.func (.func 145) #[] #[.pointer (some (a_ p))]] w fun e w'=>e=.returned (.bool (l.any q))/\Below w w w':=by
 go_enter func144,ntmps144;go_wp2_with fail;refine (SqXO.any A n c l q p w hs hn hf).mono ?_;rintro e w1 ⟨rfl,hb⟩;rcases SqXO.bm_ q l with ⟨h,hno⟩ | ⟨k,x,h,hk,hx,hq,_⟩
 ·rw [h];have hv:l.any q=false:=List.any_eq_false.2 fun x hx=>by
   exact ui_
  exact v9_
 exact vm_
theorem SqXC.con (A:OA) (n c:Nat) (l:List Sq.Cl) (q:Sq.Cl->Bool) (p:Nat) (w:World) (hs:Sl w w 4 Sq.Cl.cells A n l) (hn:n<=9223372036854775807)
  (hf:∀ x,x ∈ l->∀ w',Below w w w'->Calls prog 146 #[.agg #[i_ x.id,i_ x.field,.bool x.ref,i_ x.n],.pointer (some (a_ p))] w' fun e w''=>e=.returned (.bool (q x))/\Below w' w' w'') :
  Calls prog 51 #[.slice A n c,.func (.func 146) #[] #[.pointer (some (a_ p))]] w fun e w'=>e=.returned (.bool (l.any q))/\Below w w w':=by
 go_enter func51,ntmps51;go_wp2_with fail;refine (SqXC.any A n c l q p w hs hn hf).mono ?_;rintro e w1 ⟨rfl,hb⟩;rcases SqXC.bm_ q l with ⟨h,hno⟩ | ⟨k,x,h,hk,hx,hq,_⟩
 ·rw [h];have hv:l.any q=false:=List.any_eq_false.2 fun x hx=>by
   exact ui_
  exact v9_
 exact vm_
theorem SqXD.con (A:OA) (n c:Nat) (l:List Sq.Dt) (q:Sq.Dt->Bool) (p:Nat) (w:World) (hs:Sl w w 5 Sq.Dt.cells A n l) (hn:n<=9223372036854775807)
  (hf:∀ x,x ∈ l->∀ w',Below w w w'->Calls prog 148 #[.agg #[i_ x.id,i_ x.field,i_ x.op,.bool x.ref,i_ x.n],.pointer (some (a_ p))] w' fun e w''=>e=.returned (.bool (q x))/\Below w' w' w'') :
  Calls prog 147 #[.slice A n c,.func (.func 148) #[] #[.pointer (some (a_ p))]] w fun e w'=>e=.returned (.bool (l.any q))/\Below w w w':=by
 go_enter func147,ntmps147;go_wp2_with fail;refine (SqXD.any A n c l q p w hs hn hf).mono ?_;rintro e w1 ⟨rfl,hb⟩;rcases SqXD.bm_ q l with ⟨h,hno⟩ | ⟨k,x,h,hk,hx,hq,_⟩
 ·rw [h];have hv:l.any q=false:=List.any_eq_false.2 fun x hx=>by
   exact ui_
  exact v9_
 exact vm_
end Go.Proofs.YtfolidlmgfhkiaaGreat
namespace Go.Proofs.YtfolidlmgfhkiaaGreat
open Go.RowKit
def Wi (X:NP) (o:Option Nat):NP:=fun k=>X k\/o=some k
def OwT (w:World) (base:Nat) (et:TypeId) (e:List CT) (X:NP) (K:Nat) (A:OA) (n c:Nat):Prop :=
 ∃ xs,w.ownsRow base et e.length (.slice A n c) n xs/\∀ k j t,k<n->e[j]?=some t->∃ u,xs[k*e.length+j]?=some u/\VT w (Wi X (Value.slice A n c).ownBlock) K t u
section
variable {X Y:NP} {w w':World} {K K' base n m c c2:Nat} {et:TypeId} {e:List CT} {A B:OA}
theorem OwT.nil (w:World) (base:Nat) (et:TypeId) (e:List CT) (X:NP) (K:Nat):OwT w base et e X K none 0 0:=⟨[],World.ownsRow_nil _ _ _ _,fun k j t h=>absurd h o_⟩
theorem OwT.slT (h:OwT w base et e X K A n c) (hb:∀ k,X k->k<base) (hn:n<=K):SlT w X K e A n c:=by
 obtain ⟨xs,ho,hx⟩:=h;exact SlT.da_ ho hb hn (fun k j t hk hj=>by obtain ⟨u,hu,hv⟩:=hx k j t hk hj;exact ⟨u,hu,hv.less (fun k _ h=>.inl h)⟩)
theorem OwT.mono {base':Nat} (h:OwT w base et e X K A n c) (hb:base'<=base) (hK:K<=K'):OwT w base' et e X K' A n c:=by
 obtain ⟨xs,ho,hx⟩:=h;exact ⟨xs,own_mono ho hb,fun k j t hk hj=>by obtain ⟨u,hu,hv⟩:=hx k j t hk hj;exact ⟨u,hu,hv.kept (Kp.refl _ _) (fun _ _ h=>h) hK⟩⟩
theorem OwT.kept (h:OwT w base et e X K A n c) {row:Option Nat} (hg:w.grownBy w' row) (hr:∀ k,row=some k->X k/\k<base):OwT w' base et e X K A n c:=by
 obtain ⟨xs,ho,hx⟩:=h;have hne:∀ k,row=some k->(Value.slice A n c).ownBlock≠some k:=fun k hk h'=>by have:=(am_ ho h').1;have:=(hr k hk).2;omega
 refine ⟨xs,ho.kept hg (by cases row with | none=>cases (Value.slice A n c).ownBlock <;> simp | some k=>exact .inr (hne k rfl)),fun k j t hk hj=>?_⟩;exact ur_
theorem OwT.below (h:OwT w base et e X K A n c) (hb:Below w w w'):OwT w' base et e X K A n c:=h.kept (cf_ hb none) (fun _ h=>by cases h)
theorem SlT.news (h:SlT w X K e A n c):∃ news:VL,news.length=n*e.length/\(A=none->n=0)/\(∀ ad,A=some ad->∀ (j:Nat) (u:Value),news[j]?=some u->w.cell? (ad.add j)=some u)/\(∀ u ∈ news,u.oneCell'=true) ∧
  ∀ k j t,k<n->e[j]?=some t->∃ u,news[k*e.length+j]?=some u/\VT w X K t u:=by
 rcases Nat.eq_zero_or_pos n with rfl | hn
 ·exact ⟨[],zj_,fun _=>rfl,fun ad _ j u hu=>by simp at hu,fun u hu=>by simp at hu,fun k j t hk=>absurd hk o_⟩
 cases A with
 | none=>exact absurd (h.nul rfl).1 o_
 | some ad =>
  obtain ⟨g,o,rfl,hg,hX,f,hf,ht⟩:=h.at_ _ rfl;have A3:∀ i,i<n*e.length->i / e.length<n/\i % e.length<e.length/\i / e.length*e.length+i % e.length=i:=fun i hi=>by
   have A1:0<e.length:=by rcases Nat.eq_zero_or_pos e.length with h0 | h0;(rw [h0] at hi;omega);exact h0
   exact ⟨Nat.div_lt_of_lt_mul (by rw [Nat.mul_comm];exact hi),Nat.mod_lt _ A1,Nat.div_add_mod' i e.length⟩
  refine ⟨(List.range (n*e.length)).map fun i=>f (i / e.length) (i % e.length),zj_,x_,fun ad A0 j u hu=>?_,fun u hu=>?_,fun k j t hk hj=>?_⟩
  ·injection A0 with A0;subst A0;have hj:j<n*e.length:=by have:=(e_ hu).1;simpa using this
   simp [hj] at hu;subst hu;obtain ⟨h1,h2,h3⟩:=A3 j hj;rw [Addr.add_lit];have:=hf (j / e.length) (j % e.length) _ h1 (ge_ h2)
   rwa [h3] at this
  ·obtain ⟨i,hi,rfl⟩:=List.mem_map.1 hu;have hi:=List.mem_range.1 hi;obtain ⟨h1,h2,_⟩:=A3 i hi;exact (ht _ _ _ h1 (ge_ h2)).one
  have A2:j<e.length:=(e_ hj).1;have A4:k*e.length+j<n*e.length:=by
   exact th_
  have hd:(k*e.length+j) / e.length=k:=by rw [Nat.mul_comm,Nat.mul_add_div o_,Nat.div_eq_of_lt A2];omega
  have hm:(k*e.length+j) % e.length=j:=by rw [Nat.mul_comm,Nat.mul_add_mod,Nat.mod_eq_of_lt A2]
  exact ⟨f k j,by simp [A4,hd,hm],ht k j t hk hj⟩
theorem SlT.take {X:NP} {w:World} {K n c k:Nat} {e:List CT} {A:OA} (h:SlT w X K e A n c) (hk:k<=n) (c':Nat) (hc:k<=c') (hm:c'<=c):SlT w X K e A k c':=by
 refine ⟨Nat.le_trans hk h.le,hc,by have:=h.max;omega,fun hA=>?_,fun ad hA=>?_⟩
 ·have:=h.nul hA;omega
 obtain ⟨g,o,e1,hg,hX,f,hf,ht⟩:=h.at_ ad hA;exact ⟨g,o,e1,hg,hX,f,fun q j t hq hj=>hf q j t o_ hj,fun q j t hq hj=>ht q j t o_ hj⟩
theorem SlT.drop {X:NP} {w:World} {K n c k:Nat} {e:List CT} {A:OA} (h:SlT w X K e A n c) (hk:k<=n):SlT w X K e (cutA A c k e.length) (n - k) (c - k):=by
 unfold cutA;split
 ·rename_i hck
  have A0:n - k=0:=by have:=h.cap;omega
  rw [A0];exact h.take (Nat.zero_le _) _ (Nat.zero_le _) o_
 refine ⟨by have:=h.le;omega,by have:=h.cap;omega,by have:=h.max;omega,fun hA=>?_,fun ad hA=>?_⟩
 ·cases A with
  | none=>have:=h.nul rfl;omega
  | some ad=>cases hA
 cases A with
 | none=>cases hA
 | some bd =>
  obtain ⟨g,o,rfl,hg,hX,f,hf,ht⟩:=h.at_ bd rfl;injection hA with hA;subst hA;refine ⟨g,o+k*e.length,by show Addr.add _ _=_;rw [Addr.add_lit],hg,hX,fun q j=>f (k+q) j,fun q j t hq hj=>?_,fun q j t hq hj=>ht (k+q) j t o_ hj⟩;have:=hf (k+q) j t o_ hj;rw [Nat.add_mul] at this;rw [show o+k*e.length+(q*e.length+j)=o+(k*e.length+q*e.length+j) from by omega];exact this
theorem OwT.set {X:NP} {w:World} {K base n c g k j:Nat} {et:TypeId} {e:List CT} {t:CT} {u:Value} (h:OwT w base et e X K (some (a_ g)) n c) (hk:k<n) (hj:e[j]?=some t) (hv:VT w (Wi X (some g)) K t u) (p:Addr) (hp:p=⟨g,k*e.length+j,none⟩):OwT (w.setCell p u) base et e X K (some (a_ g)) n c:=by
 subst hp;obtain ⟨xs,ho,hx⟩:=h;have A3:j<e.length:=(e_ hj).1;have A0:Kp (Wi X (some g)) w (w.setCell ⟨g,k*e.length+j,none⟩ u):=(Kp.refl _ w).setCell (.inl (.inr rfl)) u;refine ⟨xs.set (k*e.length+j) u,(ho.stored _ _).1,fun q i s hq hi=>?_⟩;have A2:i<e.length:=(e_ hi).1;obtain ⟨v,A1,A4⟩:=hx q i s hq hi;by_cases hsame:k=q/\j=i
 ·obtain ⟨rfl,rfl⟩:=hsame;rw [hj] at hi;injection hi with hi;subst hi;exact ⟨u,by rw [gs_,if_pos rfl,if_pos (e_ A1).1],hv.up A0 (l_)⟩
 have hne:k*e.length+j≠q*e.length+i:=slot_ne A3 A2 (by
  by_cases h1:k=q
  ·exact .inr (fun h2=>hsame ⟨h1,h2⟩)
  exact .inl h1)
 exact ⟨v,by rw [gs_,if_neg hne];exact A1,A4.up A0 (l_)⟩
theorem el_ {P:Program} {t e:TypeId} {i:TypeInfo} (hu:P.underlying t=some (.slice e)) (hi:P.info? e=some i) {A:OA} {n c k:Nat} (hk:k<=c) (w:World) :
  (Instr.slice t (.slice A n c) none (some (i_ k)) (some (i_ k))).run P w=.ok (.slice A k k) w:=by
 have hm:A.map (·.add 0)=A:=by cases A <;> simp [Addr.add]
 simp [Instr.slice,run_underlying hu,Instr.sliceBounds,Instr.sliceBound,asIntOf,hk,sizeOf,typeInfo,hi,hm];try (intro h;subst h;cases A <;> simp [Addr.add])
theorem SlT.lit1 {X:NP} {w:World} {K:Nat} {e:List CT} {vs:VL} (hv:VTs w X K e vs) (et:TypeId) (hX:¬X w) (hK:1<=K):SlT (w.alloc (.cells vs.toArray et)) X K e (some (a_ w)) 1 1:=by
 have hk:Kp X w (w.alloc (.cells vs.toArray et)):=(Kp.refl X w).alloc _;refine ⟨hK,l_,o_,x_,fun ad A0=>?_⟩;injection A0 with A0;subst A0;refine ⟨_,_,rfl,zj_,hX,fun _ j=>vs.getD j undef,fun k j t A1 hj=>?_,fun k j t A1 hj=>?_⟩
 ·obtain rfl:k=0:=by omega
  obtain ⟨u,hu,_⟩:=hv.2 j t hj;rw [ar_ _ _ _ _ _ rfl];simp [hu]
 obtain ⟨u,hu,A2⟩:=hv.2 j t hj;show VT _ X K t (vs.getD j undef)
 rw [List.getD_eq_getElem?_getD,hu];exact A2.up hk (l_)
theorem dz_ {X:NP} {w:World} {K:Nat} (a b:Int) (r:Bool) (n:Int):VTs w X K [.num,.num,.tru,.num] [i_ a,i_ b,.bool r,i_ n]:=VTs.cons (.num _) (VTs.cons (.num _) (VTs.cons (.tru _) (VTs.cons (.num _) VTs.nil)))
theorem own_append {xs news:VL} {A':OA} {c':Nat} (h:OwT w base et e X K A n c) (hxs:w.ownsRow base et e.length (.slice A n c) n xs/\∀ k j t,k<n->e[j]?=some t->∃ u,xs[k*e.length+j]?=some u/\VT w (Wi X (Value.slice A n c).ownBlock) K t u)
  (hl:news.length=m*e.length) (hn:∀ k j t,k<m->e[j]?=some t->∃ u,news[k*e.length+j]?=some u/\VT w (Wi X (Value.slice A n c).ownBlock) K t u)
  (hX:∀ k,X k->k<w) (ho:w'.ownsRow base et e.length (.slice A' (n+m) c') (n+m) (xs ++ news)) (hg:w.grownBy w' (Value.slice A n c).ownBlock) (hloc:∀ g,(Value.slice A' (n+m) c').ownBlock=some g->(Value.slice A n c).ownBlock=some g\/g=w) :
  OwT w' base et e X K A' (n+m) c':=by
 have A0:xs.length=n*e.length:=hxs.1.1;have up:∀ {t:CT} {u:Value},VT w (Wi X (Value.slice A n c).ownBlock) K t u->VT w' (Wi X (Value.slice A' (n+m) c').ownBlock) K t u:=fun hv =>
  hv.kept ((Kp.refl _ w).grown hg (fun k hk=>.inl (.inr hk))) (fun k hk A1 hin=>by
   rcases hin with hin | hin
   ·exact A1 (.inl hin)
   rcases hloc k hin with h1 | h1
   ·exact A1 (.inr h1)
   omega) (l_)
 refine ⟨xs ++ news,ho,fun k j t hk hj=>?_⟩;have A2:j<e.length:=(e_ hj).1;by_cases hkn:k<n
 ·obtain ⟨u,hu,hv⟩:=hxs.2 k j t hkn hj;exact ⟨u,w1_,up hv⟩
 obtain ⟨u,hu,hv⟩:=hn (k - n) j t o_ hj;refine ⟨u,?_,up hv⟩;have e1:k*e.length=n*e.length+(k - n)*e.length:=by rw [<-Nat.add_mul];congr 1;omega
 rw [List.getElem?_append_right yi_,A0,show k*e.length+j - n*e.length=(k - n)*e.length+j from by omega];exact hu
end
section
variable {P:Program} {w:World} {ops:Array Oper} {rest:List Oper} {o:Oper} {a:Act} {Q:Exit->Act->World->Prop}
theorem ao_ (hgd:o.guard=none) (s x:Operand) (t:TypeId) (ho:o.op=.call { callee:=.builtin .append,args:=#[s,x],argTypes:=#[t,t] })
  (base:Nat) (et:TypeId) (i:TypeInfo) (z:Value) (bytes:Nat) (e:List CT) (X:NP) (K:Nat) (ht:P.underlying t=some (.slice et)) (hi:P.info? et=some i) (hz:i.zero=some z) (hsize:i.size=e.length) (hby:i.bytes=bytes) (hzs:z.cells.size=e.length) (hsz:0<e.length)
  (A:OA) (n c:Nat) (hs:a.eval s=.slice A n c) (hown:OwT w base et e X K A n c) (B:OA) (m d:Nat) (hx:a.eval x=.slice B m d) (hsrc:SlT w (Wi X (Value.slice A n c).ownBlock) K e B m d)
  (hX:∀ k,X k->k<w) (h63:n+m<=maxLen) (hbytes:(n+m)*bytes<=140737488355328) (hbase:base<=w)
  (h:∀ A' c' w',OwT w' base et e X K A' (n+m) c'->w.grownBy w' (Value.slice A n c).ownBlock->(∀ g,(Value.slice A' (n+m) c').ownBlock=some g->(Value.slice A n c).ownBlock=some g\/g=w)->wpList P ops Q rest (a.put o.dst (.slice A' (n+m) c')) w'):wpList P ops Q (o :: rest) a w:=by
 obtain ⟨xs,h1,h2⟩:=hown;obtain ⟨news,n1,n2,n3,n4,n5⟩:=hsrc.news;exact bt_ hgd s x t ho base et i z e.length bytes ht hi hz hsize hby hzs hsz _ n xs hs h1 B m d news hx n2 n1 n3 n4 h63 hbytes hbase (fun A' c' w' g1 g2 g3=>h A' c' w' (own_append ⟨xs,h1,h2⟩ ⟨h1,h2⟩ n1 n5 hX g1 g2 g3) g2 g3)
theorem br_ {K0:Act->World->Prop} {E:Prop} (hgd:o.guard=none) (s x:Operand) (t:TypeId) (ho:o.op=.call { callee:=.builtin .append,args:=#[s,x],argTypes:=#[t,t] })
  (base:Nat) (et:TypeId) (i:TypeInfo) (z:Value) (bytes:Nat) (e:List CT) (X:NP) (K:Nat) (ht:P.underlying t=some (.slice et)) (hi:P.info? et=some i) (hz:i.zero=some z) (hsize:i.size=e.length) (hby:i.bytes=bytes) (hzs:z.cells.size=e.length) (hsz:0<e.length)
  (A:OA) (n c:Nat) (hs:a.eval s=.slice A n c) (hown:OwT w base et e X K A n c) (B:OA) (m d:Nat) (hx:a.eval x=.slice B m d) (hsrc:SlT w (Wi X (Value.slice A n c).ownBlock) K e B m d)
  (hX:∀ k,X k->k<w) (h63:n+m<=maxLen) (hbytes:(n+m)*bytes<=140737488355328) (hbase:base<=w)
  (h:∀ A' c' w',OwT w' base et e X K A' (n+m) c'->w.grownBy w' (Value.slice A n c).ownBlock->(∀ g,(Value.slice A' (n+m) c').ownBlock=some g->(Value.slice A n c).ownBlock=some g\/g=w)->K0 (a.put o.dst (.slice A' (n+m) c')) w') :
  if Region.wanted o (yielded ops a.tmps)=true then Oper.wp P o a w K0 Q else E:=by
 obtain ⟨xs,h1,h2⟩:=hown;obtain ⟨news,n1,n2,n3,n4,n5⟩:=hsrc.news;exact dn_ hgd s x t ho base et i z e.length bytes ht hi hz hsize hby hzs hsz _ n xs hs h1 B m d news hx n2 n1 n3 n4 h63 hbytes hbase (fun A' c' w' g1 g2 g3=>h A' c' w' (own_append ⟨xs,h1,h2⟩ ⟨h1,h2⟩ n1 n5 hX g1 g2 g3) g2 g3)
theorem run_append_full {P:Program} (w:World) (t ty:TypeId) (et:TypeId) (i:TypeInfo) (z:Value) (bytes:Nat) (e:List CT) (X:NP) (K:Nat) (ht:P.underlying t=some (.slice et)) (hi:P.info? et=some i) (hz:i.zero=some z) (hsize:i.size=e.length) (hby:i.bytes=bytes) (hzs:z.cells.size=e.length) (hsz:0<e.length)
  (A:OA) (n c:Nat) (hdst:SlT w X K e A n c) (B:OA) (m d:Nat) (hsrc:SlT w X K e B m d) (hm:0<m) (hfull:c<n+m) (hX:∀ k,X k->k<w) (h63:n+m<=maxLen) (hbytes:(n+m)*bytes<=140737488355328) :
  ∃ A' c' w',(Builtin.append_ #[t,t] ty #[.slice A n c,.slice B m d]).run P w=.ok (.slice A' (n+m) c') w'/\OwT w' w et e X K A' (n+m) c'/\Below w w w':=by
 obtain ⟨A0,o1,o2,o3,o4,o5⟩:=hdst.news;obtain ⟨news,n1,n2,n3,n4,n5⟩:=hsrc.news;cases B with
 | none=>exact absurd (n2 rfl) o_
 | some bd =>
  have A2:∀ v' w',w'.ownsRow w et e.length v' (n+m) (A0 ++ news)->w.grownBy w' none->∃ A' c',v'=.slice A' (n+m) c'/\OwT w' w et e X K A' (n+m) c'/\Below w w w':=fun v' w' r1 r2=>by
   obtain ⟨A',c',rfl⟩:=own_form r1 o_;have hb:Below w w w':=aj_ r2 (l_) (fun k hk=>by cases hk);refine ⟨A',c',rfl,⟨A0 ++ news,r1,fun k j t hk hj=>?_⟩,hb⟩;have up:∀ {t:CT} {u:Value},VT w X K t u->VT w' (Wi X (Value.slice A' (n+m) c').ownBlock) K t u:=fun hv=>hv.kept (Kp.of_below hb) (fun k hk A1 hin=>by
    rcases hin with hin | hin
    ·exact A1 hin
    have:=(am_ r1 hin).1;omega) (l_)
   by_cases hkn:k<n
   ·obtain ⟨u,hu,hv⟩:=o5 k j t hkn hj;exact ⟨u,w1_,up hv⟩
   obtain ⟨u,hu,hv⟩:=n5 (k - n) j t o_ hj;refine ⟨u,?_,up hv⟩;have e1:k*e.length=n*e.length+(k - n)*e.length:=by rw [<-Nat.add_mul];congr 1;omega
   rw [List.getElem?_append_right (by rw [o1];omega),o1,show k*e.length+j - n*e.length=(k - n)*e.length+j from by omega];exact hu
  cases A with
  | some ad =>
   obtain ⟨v',w',hr,r1,r2⟩:=run_append_arg_grows (P:=P) w t ty et i z e.length bytes ht hi hz hsize hby hzs hsz ad n c A0 o1 (o3 ad rfl) bd m d news n1 (n3 bd rfl) hfull h63 hbytes;obtain ⟨A',c',rfl,h1,h2⟩:=A2 v' w' r1 r2;exact ⟨A',c',w',hr,h1,h2⟩
  | none =>
   obtain ⟨rfl,rfl⟩:=hdst.nul rfl;obtain rfl:A0=[]:=List.eq_nil_of_length_eq_zero (by simpa using o1);obtain ⟨v',w',hr,r1,r2,_⟩:=run_append_own (P:=P) w w t ty et i z e.length bytes ht hi hz hsize hby hzs hsz (.slice none 0 0) 0 [] (World.ownsRow_nil w _ et e.length) bd m d news n1 (n3 bd rfl) n4 h63 hbytes (l_);obtain ⟨A',c',rfl,h1,h2⟩:=A2 v' w' r1 r2;exact ⟨A',c',w',hr,h1,h2⟩
theorem bo_ {K0:Act->World->Prop} {E:Prop} (hgd:o.guard=none) (s x:Operand) (t:TypeId) (ho:o.op=.call { callee:=.builtin .append,args:=#[s,x],argTypes:=#[t,t] })
  (et:TypeId) (i:TypeInfo) (z:Value) (bytes:Nat) (e:List CT) (X:NP) (K:Nat) (ht:P.underlying t=some (.slice et)) (hi:P.info? et=some i) (hz:i.zero=some z) (hsize:i.size=e.length) (hby:i.bytes=bytes) (hzs:z.cells.size=e.length) (hsz:0<e.length)
  (A:OA) (n c:Nat) (hs:a.eval s=.slice A n c) (hdst:SlT w X K e A n c) (B:OA) (m d:Nat) (hx:a.eval x=.slice B m d) (hsrc:SlT w X K e B m d) (hm:0<m) (hfull:c<n+m) (hX:∀ k,X k->k<w) (h63:n+m<=maxLen) (hbytes:(n+m)*bytes<=140737488355328)
  (h:∀ A' c' w',OwT w' w et e X K A' (n+m) c'->Below w w w'->K0 (a.put o.dst (.slice A' (n+m) c')) w'):if Region.wanted o (yielded ops a.tmps)=true then Oper.wp P o a w K0 Q else E:=by
 obtain ⟨A',c',w',hr,h1,h2⟩:=run_append_full (P:=P) w t o.type et i z bytes e X K ht hi hz hsize hby hzs hsz A n c hdst B m d hsrc hm hfull hX h63 hbytes;have hw:Region.wanted o (yielded ops a.tmps)=true:=by simp [Region.wanted,hgd]
 exact tm_
end
def valT:List CT:=[.tru,.num]
def objT:List CT:=[.num,.sl valT]
def ap_:List CT:=[.num,.num,.tru,.num]
def bj_:List CT:=[.num,.num,.num,.tru,.num]
def actT:List CT:=[.tru,.num,.num]
def regsT:List CT:=[.tru,.num,.tru,.num,.tru,.num,.tru,.num,.tru,.num,.tru,.num,.tru,.num,.tru,.num,.tru,.num,.tru,.num,.tru,.num,.tru,.num,.tru,.num,.tru,.num,.tru,.num,.tru,.num]
def cpuT:List CT:=.num :: regsT
def effT:List CT:=.num :: cpuT ++ [.sl ap_,.sl ap_,.sl objT,.sl bj_,.sl actT,.num,.tru,.tru,.num]
def ae_:List CT:=[.num,.num,.tru] ++ cpuT ++ [.sl ap_,.sl ap_,.sl ap_,.sl objT,.sl bj_,.sl actT,.num,.num,.tru,.tru,.num,.num]
def comT:List CT:=[.sl objT,.num,.num,.sl actT,.tru,.tru,.tru,.num,.num,.num]
section
variable {X:NP} {w:World} {K:Nat}
theorem VTs.val {vs:VL} (h:VTs w X K valT vs):∃ x:Val,vs=x.cells:=by
 obtain ⟨a,r1,rfl,ha,h1⟩:=h.head;obtain ⟨b,r2,rfl,hb,h2⟩:=h1.head;obtain ⟨x,rfl⟩:=ha.bool;obtain ⟨y,rfl⟩:=hb.int;rw [h2.end];exact ⟨⟨x,y⟩,rfl⟩
theorem SlT.vals {A:OA} {n c:Nat} (h:SlT w X K valT A n c):∃ s:List Val,Sl w w 2 Val.cells A n s:=by
 obtain ⟨l,hl,_⟩:=h.list Val.cells (fun _=>True) (fun vs hv=>by obtain ⟨x,rfl⟩:=hv.val;exact ⟨x,rfl,trivial⟩);exact ⟨l,hl⟩
theorem VTs.obj {vs:VL} (h:VTs w X K objT vs):∃ x:Ob,vs=x.cells/\SlT w X K valT x.A x.n x.c/\Sl w w 2 Val.cells x.A x.n x.s:=by
 obtain ⟨a,r1,rfl,ha,h1⟩:=h.head;obtain ⟨b,r2,rfl,hb,h2⟩:=h1.head;obtain ⟨x,rfl⟩:=ha.int;obtain ⟨A,n,c,rfl,hs⟩:=hb.slice;rw [h2.end];obtain ⟨s,hS⟩:=hs.vals;exact ⟨⟨x,A,n,c,s⟩,rfl,hs,hS⟩
theorem SlT.hp {A:OA} {n c:Nat} (h:SlT w X K objT A n c) (hK:K<=8796093021952):∃ l:List Ob,Hp w w A n l/\∀ o ∈ l,SlT w X K valT o.A o.n o.c:=by
 obtain ⟨l,hl,hP⟩:=h.list Ob.cells (fun o=>(Sl w w 2 Val.cells o.A o.n o.s/\o.n<=8796093021952)/\SlT w X K valT o.A o.n o.c) (fun vs hv=>by
  obtain ⟨x,rfl,h1,h2⟩:=hv.obj
  exact ⟨x,rfl,⟨h2,Nat.le_trans h1.le hK⟩,h1⟩)
 exact ⟨l,⟨hl,fun o ho=>(hP o ho).1⟩,fun o ho=>(hP o ho).2⟩
theorem vts_val (x:Val):VTs w X K valT x.cells:=(VTs.cons (.tru _) (VTs.cons (.num _) VTs.nil))
theorem vts_ob {x:Ob} (h:SlT w X K valT x.A x.n x.c):VTs w X K objT x.cells:=VTs.cons (.num _) (VTs.cons h.vt VTs.nil)
def Form (A:OA) (n c z:Nat):Prop:=n<=c/\c<=9223372036854775807/\(A=none->n=0/\c=0)/\∀ ad,A=some ad->∃ g o,ad=(f_ g o)/\g<z
theorem form_own {base sz:Nat} {et:TypeId} {A:OA} {n c:Nat} {xs:VL} (ho:w.ownsRow base et sz (.slice A n c) n xs):Form A n c w:=by
 refine ⟨(dk_ ho).1,own_cap ho,fun hA=>⟨(own_src ho).1 hA,(dk_ ho).2 hA⟩,fun ad hA=>?_⟩;subst hA;rcases ho.2 with ⟨h',_⟩ | ⟨g,cap,cur,h',hbg,hg,_⟩
 ·cases h'
 injection h' with h1 _ _;injection h1 with h1;subst h1;refine ⟨g,0,rfl,?_⟩;rcases Nat.lt_or_ge g w with h2 | h2
 ·exact h2
 rw [Array.getElem?_eq_none h2] at hg;cases hg
theorem Form.mono {A:OA} {n c z z':Nat} (h:Form A n c z) (hz:z<=z'):Form A n c z':=⟨h.1,h.2.1,h.2.2.1,fun ad hA=>by obtain ⟨g,o,e,hg⟩:=h.2.2.2 ad hA;exact ⟨g,o,e,o_⟩⟩
theorem SlT.of_sl {α:Type} {e:List CT} {cells:α->VL} {B:Nat} {A:OA} {n c:Nat} {l:List α} (h:Sl w B e.length cells A n l) (hF:Form A n c w) (hX:∀ ad,A=some ad->¬X ad.block) (hn:n<=K) (hv:∀ x ∈ l,VTs w X K e (cells x)):SlT w X K e A n c:=by
 refine ⟨hn,hF.1,hF.2.1,hF.2.2.1,fun ad hA=>?_⟩;obtain ⟨g,o,rfl,hg⟩:=hF.2.2.2 ad hA;subst hA;refine ⟨g,o,rfl,hg,hX _ rfl,fun k j=>((l[k]?).bind fun x=>(cells x)[j]?).getD undef,fun k j t hk hj=>?_,fun k j t hk hj=>?_⟩
 ·obtain ⟨ab,ao,e1,A1,hc⟩:=h.at_ o_;injection e1 with e1;injection e1 with e1 e2;subst e1 e2;have hx:=ge_ (l:=l) (i:=k) (by rw [h.len];exact hk);obtain ⟨u,hu,_⟩:=(hv _ (List.mem_of_getElem? hx)).2 j t hj;have:=hc k _ hx j u hu;show _=some (((l[k]?).bind fun x=>(cells x)[j]?).getD undef)
  rw [this,hx];simp [hu]
 have hx:=ge_ (l:=l) (i:=k) (by rw [h.len];exact hk);obtain ⟨u,hu,A0⟩:=(hv _ (List.mem_of_getElem? hx)).2 j t hj;show VT w X K t (((l[k]?).bind fun x=>(cells x)[j]?).getD undef)
 rw [hx];simp [hu];exact A0
theorem SlT.of_vals {B:Nat} {A:OA} {n c:Nat} {s:List Val} (h:Sl w B 2 Val.cells A n s) (hF:Form A n c w) (hX:∀ ad,A=some ad->¬X ad.block) (hn:n<=K):SlT w X K valT A n c :=
 SlT.of_sl (e:=valT) h hF hX hn (fun x _=>vts_val x)
def RH (X:NP) (K:Nat) (e:Ending) (w:World):Prop:=∃ (A:OA) (n c:Nat),e=.returned (.agg #[.slice A n c])/\Hid (SlT w X K objT A n c)
def RHB (X:NP) (K:Nat) (e:Ending) (w:World):Prop:=∃ (A:OA) (n c:Nat) (b:Bool),e=.returned (.tuple #[.agg #[.slice A n c],.bool b])/\Hid (SlT w X K objT A n c)
end
end Go.Proofs.YtfolidlmgfhkiaaGreat
namespace Go.Proofs.YtfolidlmgfhkiaaGreat
open Go.RowKit Go.Proofs.Tryz
theorem SqXT.con (A:OA) (n c:Nat) (l:List Sq.Cl) (q:Sq.Cl->Bool) (p p2 p3 p4:Nat) (w:World) (hs:Sl w w 4 Sq.Cl.cells A n l) (hn:n<=9223372036854775807)
  (hf:∀ x,x ∈ l->∀ w',Below w w w'->Calls prog 48 #[.agg #[i_ x.id,i_ x.field,.bool x.ref,i_ x.n],.pointer (some (a_ p)),.pointer (some (a_ p2)),.pointer (some (a_ p3)),.pointer (some (a_ p4))] w' fun e w''=>e=.returned (.bool (q x))/\Below w' w' w'') :
  Calls prog 51 #[.slice A n c,.func (.func 48) #[] #[.pointer (some (a_ p)),.pointer (some (a_ p2)),.pointer (some (a_ p3)),.pointer (some (a_ p4))]] w fun e w'=>e=.returned (.bool (l.any q))/\Below w w w':=by
 go_enter func51,ntmps51;go_wp2_with fail;refine (SqXT.any A n c l q p p2 p3 p4 w hs hn hf).mono ?_;rintro e w1 ⟨rfl,hb⟩;rcases SqXT.bm_ q l with ⟨h,hno⟩ | ⟨k,x,h,hk,hx,hq,_⟩
 ·rw [h];have hv:l.any q=false:=List.any_eq_false.2 fun x hx=>by
   exact ui_
  exact v9_
 exact vm_
end Go.Proofs.YtfolidlmgfhkiaaGreat
namespace Go.Proofs.YtfolidlmgfhkiaaGreat
open Go.RowKit
section
variable {P:Program} {ops:Array Oper} {Q:Exit->Act->World->Prop} {X:XE} {Inv:World->Prop} {ks:Nat->SK X} {a0 a:Act} {w w':World} {listed:Array Bool}
theorem list_kz {n:Nat} {ol:Oper} (hw:wfOps ops a0.tmps.size=true) (hn:ops.size=n+1) (hol:ops[n]?=some ol) (hs:StepZ P ops Q Inv ks a0 n) (hl:LastZ P ops Q Inv ks a0 n ol) :
  ∀ (rest:List Oper) (k:Nat) (listed:Array Bool) (a:Act) (w:World),ops.toList.drop k=rest->k<=n->listed.size=ops.size->(∀ j,j<ops.size->(listed.getD j true=true↔j<k))->SI ops ks Inv a0 listed a w->wpList P ops Q rest a w:=by
 intro rest
 induction rest with
 | nil =>
  intro k listed a w hd hk hz A7 h;have:=congrArg List.length hd;simp at this;omega
 | cons o rest ih =>
  intro k listed a w hd A6 hz A4 h;have ho:ops[k]?=some o:=by
   have:(ops.toList.drop k)[0]?=some o:=by rw [hd];rfl
   rw [List.getElem?_drop] at this
   simpa using this
  have A8:=(Array.getElem?_eq_some_iff.1 ho).1;obtain ⟨hg,A0,_⟩:=wf_at hw ho;refine wpList_plain hg (fun K hK=>?_);by_cases e:k=n
  ·subst e;rw [hol] at ho;injection ho with ho;subst ho;have A2:rest=[]:=by
    have:=congrArg List.length hd;simp at this;exact List.eq_nil_of_length_eq_zero o_
   subst A2;exact hl a w h.inv h.sz h.df h.out (fun j oj t hj A1 ht=>h.ok j oj t ((A4 j (Array.getElem?_eq_some_iff.1 A1).1).2 w7_) A1 ht) K (fun a' w' hq=>hK _ _ hq)
  refine hs k o e ho a w h.inv h.out (fun j hj oj t A1 ht=>h.ok j oj t ?_ A1 ht) K (fun v w' hk he A5 hv=>hK _ _ ?_)
  ·rw [List.any_eq_true] at hj;obtain ⟨e',he,A3⟩:=hj;rw [<-Array.mem_def] at he;have A3:e'.on=j:=(by simpa using A3:Region.binds .any e'=true/\e'.on=j).2;subst A3;exact (A4 _ (by have:=A0 e' he;omega)).2 (A0 e' he)
  refine ih (k+1) (listed.setIfInBounds k true) _ _ ?_ o_ yq_ (fun j hj=>?_) (h.step hw ho hk he A5 hv)
  ·rw [<-List.tail_drop,hd];rfl
  rw [Array.getD_eq_getD_getElem?,Array.getElem?_setIfInBounds];by_cases e:k=j
  ·subst e;rw [if_pos rfl,if_pos o_];simp
  rw [if_neg e,<-Array.getD_eq_getD_getElem?,A4 j hj];omega
theorem region_kzl {id:Nat} (n:Nat) {ol:Oper} (hw:wfOps ops a0.tmps.size=true) (hn:ops.size=n+1) (hol:ops[n]?=some ol) (h0:Inv w) (hs:StepZ P ops Q Inv ks a0 n) (hl:LastZ P ops Q Inv ks a0 n ol):(Code.region id ops false).wp P Q a0 w:=by
 refine wp_region_list (list_kz hw hn hol hs hl ops.toList 0 (Array.replicate ops.size false) a0 w rfl o_ t_ (fun j hj=>?_) ⟨h0,rfl,rfl,fun _ _=>rfl,fun i o t A0 ho _=>?_⟩)
 ·rw [Array.getD_eq_getD_getElem?,Array.getElem?_replicate,if_pos hj];simp
 exfalso;have A1:=(Array.getElem?_eq_some_iff.1 ho).1;rw [Array.getD_eq_getD_getElem?,Array.getElem?_replicate,if_pos A1] at A0;cases A0
end
end Go.Proofs.YtfolidlmgfhkiaaGreat
namespace Go.Proofs.YtfolidlmgfhkiaaGreat
open Go.RowKit Go.Proofs.Tryz
structure In where
 op:Int
 a:Int
 b:Int
 c:Int
 n:Int
def In.cells (x:In):VL:=[i_ x.op,i_ x.a,i_ x.b,i_ x.c,i_ x.n]
theorem In.size (x:In):x.cells.length=5:=rfl
def aw_:List CT:=[.num,.num,.num,.num,.num]
theorem VTs.inst {X:NP} {w:World} {K:Nat} {vs:VL} (h:VTs w X K aw_ vs):∃ x:In,vs=x.cells:=by
 obtain ⟨a,r1,rfl,ha,h1⟩:=h.head;obtain ⟨b,r2,rfl,hb,h2⟩:=h1.head;obtain ⟨c,r3,rfl,hc,h3⟩:=h2.head;obtain ⟨d,r4,rfl,hd,h4⟩:=h3.head;obtain ⟨e,r5,rfl,he,h5⟩:=h4.head;obtain ⟨a,rfl⟩:=ha.int;obtain ⟨b,rfl⟩:=hb.int;obtain ⟨c,rfl⟩:=hc.int;obtain ⟨d,rfl⟩:=hd.int;obtain ⟨e,rfl⟩:=he.int;rw [h5.end];exact ⟨⟨a,b,c,d,e⟩,rfl⟩
theorem SlT.insts {X:NP} {w:World} {K:Nat} {A:OA} {n c:Nat} (h:SlT w X K aw_ A n c):∃ l:List In,Sl w w 5 In.cells A n l:=by
 obtain ⟨l,hl,_⟩:=h.list In.cells (fun _=>True) (fun vs hv=>by obtain ⟨x,rfl⟩:=hv.inst;exact ⟨x,rfl,trivial⟩);exact ⟨l,hl⟩
def opAt (l:List In) (n:Int):Int:=if 0<=n then (match l[n.toNat]? with | some x=>x.op | none=>-1) else -1
theorem opAt_nat (l:List In) (k:Nat):opAt l (k:Int)=(match l[k]? with | some x=>x.op | none=>-1):=by
 unfold opAt;rw [if_pos o_,Int.toNat_natCast]
structure OkI (l:List In) (i:Nat) (x:In):Prop where
 op:0<=x.op/\x.op<=21
 a:0<=x.a/\x.a<16
 b:x.op≠13->x.op≠10->0<=x.b/\x.b<16
 c:x.op≠13->0<=x.c/\x.c<16
 call:x.op=13->(0<=x.b/\x.b<=4/\x.b<=x.c/\x.c<=64)/\opAt l x.n=21
 size:x.op=7->0<=x.n/\x.n<=16
 jump:x.op=11\/x.op=12->(i:Int)<x.n\/opAt l x.n=21
def regB (n:Int) (u:Bool):Bool:=decide (n=0) || (u && (decide (0<n) && decide (n<16)))
theorem reg_of {n:Int} {u:Bool} (h:regB n u=true):0<=n/\n<16:=by
 unfold regB at h;simp at h;omega
def ROp (l:List In) (pc:Int) (e:Ending):Prop:=∃ q:Int,e=.returned (i_ q)/\Hid (opAt l pc=q)
theorem op_any (A:OA) (n c:Nat) (v s pc:Int) (l:List In) (w:World) (hs:Sl w w 5 In.cells A n l) (hn:n<=9000000000000) :
  Calls prog 128 #[.agg #[.slice A n c,i_ v,i_ s],i_ pc] w fun e w'=>ROp l pc e/\Below w w w':=by
 have HL:=q_ hs.len;by_cases h0:pc<0
 ·have H:=h_ (opAt l pc=-1) (by unfold opAt;rw [if_neg o_]);go_enter func128,ntmps128;go_wp2;go_ret;exact ⟨⟨_,rfl,q_ H.o⟩,(bel (b_))⟩
 obtain ⟨k,rfl⟩:∃ k:Nat,pc=k:=⟨pc.toNat,o_⟩;have HK:=q_ (opAt_nat l k);by_cases h1:k<n
 ·obtain ⟨ab,ao,rfl,A1,A0⟩:=hs.at_ o_;obtain ⟨x,hx⟩:∃ x,l[k]?=some x:=⟨_,ge_ (by rw [HL.o];exact h1)⟩;have HX:=q_ hx;have c0:w.cell? ⟨ab,ao+k*5,none⟩=some (i_ x.op):=A0 k x hx 0 _ rfl;have h2:¬(n:Int)<=(k:Int):=by omega
  have h3:(k:Int)<(n:Int):=by omega
  clear A0 hx h0;exact td_
 have h2:(n:Int)<=(k:Int):=by omega
 have HX:=h_ (l[k]?=none) (List.getElem?_eq_none xo_);exact td_
def RReg (n:Int) (e:Ending):Prop:=∃ b:Bool,e=.returned (.bool b)/\Hid (b=true->0<=n/\n<16)
theorem az_ (n:Int) (u:Bool) (w:World):Calls prog 168 #[i_ n,.bool u] w fun e w'=>RReg n e/\Below w w w':=by
 go_enter func168,ntmps168;by_cases h:n=0
 ·have H:=h_ (regB n u=true) (by unfold regB;simp [h]);exact vu_
 have A0:(n == 0)=false:=by simp [h]
 cases u with
 | false =>
  have H:=h_ (regB n false=false) (by unfold regB;simp [h]);exact vu_
 | true =>
  by_cases h1:0<n
  ·by_cases h2:n<16
   ·have H:=h_ (regB n true=true) (by unfold regB;simp [h1,h2]);exact vu_
   have H:=h_ (regB n true=false) (by unfold regB;simp [h2,h]);exact vu_
  have H:=h_ (regB n true=false) (by unfold regB;simp [h1,h]);exact vu_
def shTab:List (Bool × Bool × Bool × Int):=[(false,false,false,0),(true,false,false,1),(true,false,false,0),(true,true,false,0),(true,true,true,2),(true,true,false,3),(true,true,false,3),(true,false,false,4),(true,false,false,5),(true,false,false,5),(true,false,false,5),(false,false,false,6),(true,false,false,6),(false,false,false,7),(true,false,false,0),(true,false,false,0),(true,false,false,0),(false,false,false,8),(true,false,false,0),(true,false,false,0),(false,false,false,5),(false,false,false,9)]
def shCells (s:Bool × Bool × Bool × Int):VL:=[.bool s.1,.bool s.2.1,.bool s.2.2.1,i_ s.2.2.2]
theorem shapes_any (w:World):Calls prog 120 #[] w fun e w'=>(∃ g,e=.returned (.slice (some (a_ g)) 22 22)/\Hid (Sl w' w' 4 shCells (some (a_ g)) 22 shTab))/\Below w w w':=by
 go_enter func120,ntmps120;go_wp2;go_ret;refine ⟨⟨_,rfl,q_ ⟨rfl,fun _=>⟨_,_,rfl,zj_,fun i x hx j u hu=>?_⟩⟩⟩,(bel (b_))⟩;have h:=flat_get (sz:=4) (cells:=shCells) (fun _=>rfl) shTab i x hx j u hu;rw [ar_ _ _ _ _ _ t_,Nat.zero_add,<-h,List.getElem?_toArray];rfl
def shAt (k:Nat):Bool × Bool × Bool × Int:=(shTab[k]?).getD (false,false,false,0)
theorem sh_at {k:Nat} (h:k<22):shTab[k]?=some (shAt k):=by
 unfold shAt;rw [ge_ (show k<shTab.length from h)];rfl
theorem sh_n {k:Nat} (h:k<22):((shAt k).2.2.2=4/\k=7)\/((shAt k).2.2.2=6/\(k=11\/k=12))\/((shAt k).2.2.2=7/\k=13)\/((shAt k).2.2.2≠4/\(shAt k).2.2.2≠6/\(shAt k).2.2.2≠7/\k≠7/\k≠11/\k≠12/\k≠13):=by
 revert k;decide
theorem sh_v {k:Nat} (h:k<22):(k=10->(shAt k).2.2.2=5)/\((shAt k).2.2.2=0\/(shAt k).2.2.2=1\/(shAt k).2.2.2=2\/(shAt k).2.2.2=3\/(shAt k).2.2.2=4\/(shAt k).2.2.2=5\/(shAt k).2.2.2=6\/(shAt k).2.2.2=7\/(shAt k).2.2.2=8\/(shAt k).2.2.2=9):=by
 revert k;decide
def RFits (l:List In) (i:Nat) (x:In) (e:Ending):Prop:=∃ b,e=.returned (.bool b)/\(b=true->OkI l i x)
theorem rfits_no (l:List In) (i:Nat) (x:In):RFits l i x (.returned (.bool false)):=⟨false,rfl,fun h=>by cases h⟩
theorem mkOk {l:List In} {i k:Nat} {x:In} (ho:x.op=k) (hk:k<22) (ha:0<=x.a/\x.a<16) (hb:k≠13->k≠10->0<=x.b/\x.b<16) (hc:k≠13->0<=x.c/\x.c<16) (hp:k=13->0<=x.b/\x.b<=4/\x.b<=x.c/\x.c<=64)
  (hm:k=13->opAt l x.n=21) (hz:k=7->0<=x.n/\x.n<=16) (hj:k=11\/k=12->(i:Int)<x.n\/opAt l x.n=21):OkI l i x :=
 ⟨o_,ha,fun h1 h2=>hb o_ o_,fun h1=>hc o_,fun h=>⟨hp o_,hm o_⟩,fun h=>hz o_,fun h=>hj o_⟩
theorem refwrite_fin {n i j c4 g f r b0:Nat} {l:List Ob} {A:OA} {w w4 T:World} {y:Ob} {v:Val} {u:Value} (hs:Hp w w A n l) (hw4:Below w w w4) (hrow:w4.ownsRow b0 90 2 (.slice (some (a_ g)) n c4) n (l.flatMap Ob.cells)) (hT:Below w4 w4 T)
  (hy:Sl T T 2 Val.cells (some (a_ f)) y.n y.s) (hyA:y.A=some (a_ f)) (hyn:y.n<=8796093021952) (hf:w4<=f) (hj:j<y.n) (hi:i<n) (hb0:w<=b0) (hr:w<=r) (hrb:r<b0) :
  Hp (((((T.setCell ⟨f,j*2,none⟩ (.bool v.ref)).setCell ⟨f,j*2+1,none⟩ (i_ v.n)).setCell ⟨g,i*2,none⟩ (i_ y.id)).setCell ⟨g,i*2+1,none⟩ (.slice (some (a_ f)) y.n y.c)).setCell (a_ r) u)
   (((((T.setCell ⟨f,j*2,none⟩ (.bool v.ref)).setCell ⟨f,j*2+1,none⟩ (i_ v.n)).setCell ⟨g,i*2,none⟩ (i_ y.id)).setCell ⟨g,i*2+1,none⟩ (.slice (some (a_ f)) y.n y.c)).setCell (a_ r) u).heap.size (some (a_ g)) n (l.set i ⟨y.id,y.A,y.n,y.c,y.s.set j v⟩):=by
 have hz:(((((T.setCell ⟨f,j*2,none⟩ (.bool v.ref)).setCell ⟨f,j*2+1,none⟩ (i_ v.n)).setCell ⟨g,i*2,none⟩ (i_ y.id)).setCell ⟨g,i*2+1,none⟩ (.slice (some (a_ f)) y.n y.c)).setCell (a_ r) u).heap.size=T:=by simp
 have Ad:=hT.size;have Ac:=hw4.size;have Aa:b0<=g/\g<w4:=hrow.lt g (by simp [Value.ownBlock]);have A5:=grown2 T f (j*2) (j*2+1) (.bool v.ref) (i_ v.n);obtain ⟨T1,A3⟩:=ex_ ((T.setCell ⟨f,j*2,none⟩ (.bool v.ref)).setCell ⟨f,j*2+1,none⟩ (i_ v.n));rw [<-A3] at A5;have A9:(T1:Nat)=T:=by rw [A3];simp
 have A6:=grown2 T1 g (i*2) (i*2+1) (i_ y.id) (.slice (some (a_ f)) y.n y.c);obtain ⟨T2,A4⟩:=ex_ ((T1.setCell ⟨g,i*2,none⟩ (i_ y.id)).setCell ⟨g,i*2+1,none⟩ (.slice (some (a_ f)) y.n y.c));rw [<-A4] at A6;have Ab:(T2:Nat)=T:=by rw [A4];simp [A9]
 have A7:=dt_ T2 (a_ r) u;have hl:=hs.sl.len;have A2:T1.ownsRow b0 90 2 (.slice (some (a_ g)) n c4) n (l.flatMap Ob.cells):=(own_below hrow hT).kept A5 (.inr (by intro e;simp [Value.ownBlock] at e;omega));have A1:T2.ownsRow b0 90 2 (.slice (some (a_ g)) n c4) n ((l.set i ⟨y.id,y.A,y.n,y.c,y.s.set j v⟩).flatMap Ob.cells):=by
  rw [A4];exact own_put2 Ob.size A2 hl hi ⟨y.id,y.A,y.n,y.c,y.s.set j v⟩ _ _ (by show [_,_]=_;rw [hyA])
 rw [hz];rw [<-A3,<-A4];refine ⟨((Sl.da_ Ob.size (by rw [List.length_set];exact hl) A1).apart (l_) A7 (fun _ ad A0 e=>by injection A0 with A0;subst A0;injection e with e;simp only at e;omega)).mono o_,fun o ho=>?_⟩;rcases List.mem_or_eq_of_mem_set ho with hm | rfl
 ·obtain ⟨o1,o2⟩:=hs.obs o hm;refine ⟨?_,o2⟩;have hb:∀ ad,0<o.n->o.A=some ad->ad.block<w:=fun ad h0 A0=>by
   obtain ⟨ab,ao,e,A8,_⟩:=o1.at_ h0;rw [A0] at e;injection e with e;subst e;exact A8
  have h1:=(o1.up hw4).up hT;refine ((h1.apart (l_) A5 (fun h0 ad A0 e=>?_)).apart o_ A6 (fun h0 ad A0 e=>?_)).apart o_ A7 (fun h0 ad A0 e=>?_)
  ·have:=hb ad h0 A0;injection e with e;omega
  ·have:=hb ad h0 A0;injection e with e;omega
  have:=hb ad h0 A0;injection e with e;simp only at e;omega
 refine ⟨?_,hyn⟩;have h2:=hy.put2 Val.size hj v (u:=.bool v.ref) (v:=i_ v.n) rfl ⟨f,j*2,none⟩ ⟨f,j*2+1,none⟩ (by rw [Nat.zero_add]) (by rw [Nat.zero_add]);rw [<-A3] at h2;show Sl _ _ 2 Val.cells y.A y.n (y.s.set j v)
 rw [hyA];exact (h2.apart o_ A6 (fun _ ad A0 e=>by injection A0 with A0;subst A0;injection e with e;simp only at e;omega)).apart o_ A7 (fun _ ad A0 e=>by injection A0 with A0;subst A0;injection e with e;simp only at e;omega)
theorem Write_t (X:NP) (K:Nat) (A:OA) (n c:Nat) (id f:Int) (v:Val) (w:World) (ht:SlT w X K objT A n c) (hK:K<=4398046510976) (hX:∀ k,X k->k<w) :
  Calls prog 129 #[.agg #[.slice A n c],i_ id,i_ f,.agg #[.bool v.ref,i_ v.n]] w fun e w'=>RHB X K e w'/\Below w w w':=by
 obtain ⟨l,hs,Ap⟩:=ht.hp o_;have hn:n<=4398046510976:=Nat.le_trans ht.le hK;have HT:=q_ ht;have Ah:=q_ Ap;have AG:=q_ hX;clear ht Ap hX;obtain ⟨i0,AT,AV,AW,AX⟩:=info_parts CloneObj.infoE;have HL:=q_ hs.sl.len;have HS:=q_ hs;obtain ⟨w2,A5⟩:=ex_ (((w.alloc (.cells #[.slice A n c] 35)).alloc (.cells #[.bool v.ref,i_ v.n] 38)).alloc (.cells #[.slice none 0 0] 35));have A7:Below w w w2:=by rw [A5];exact (bel (b_))
 have Ba:(w2:Nat)=w+3:=by rw [A5];simp
 have HA:=h_ (w2.cell? (a_ w)=some (.slice A n c)) (by rw [A5,al_ _ _ _ _ y_,al_ _ _ _ _ t_,ar_ _ _ _ _ _ rfl];rfl);have AM:=h_ (w2.cell? (a_ (w+1))=some (.bool v.ref)) wu_;have AN:=h_ (w2.cell? (f_ (w+1) 1)=some (i_ v.n)) wu_;have HD:=h_ (w2.cell? (a_ (w+2))=some (.slice none 0 0)) (by rw [A5,ar_ _ _ _ _ _ t_];rfl);have HF:=h_ (w2.frozen? (a_ (w+2))=false) (by rw [A5,bu_ _ _ _ _ _ t_]);have As:=q_ (hs.up A7);clear hs;go_enter func129,ntmps129;go_wp2_with fail;rw [<-A5];have HW:=q_ A5;clear A5;refine (refread_any A n c l id f w2 As.o o_).mono ?_;rintro e w3 ⟨rfl,Ag⟩;have AZ:=Ag.size;have e0:w3.cell? (a_ w)=some (.slice A n c):=(belc Ag o_).trans HA.o;have e3:w3.cell? (a_ (w+2))=some (.slice none 0 0):=(belc Ag o_).trans HD.o;have f3:w3.frozen? (a_ (w+2))=false:=(belf Ag o_).trans HF.o;have q0:(w:Nat)<w3:=by omega
 have q1:(w:Nat)+1<w3:=by omega
 have q2:(w:Nat)+2<w3:=by omega
 have Az:Below w w w3:=A7.trans (Ag.mono A7.size);cases hrb:cn_ id f (l.map Ob.po) with
 | false =>
  have HR:=q_ (wrote_no (v:=v) hrb);have AQ:=q_ hrb;clear hrb;go_wp2;refine bodyPost_ret (v:=.tuple #[.agg #[.slice none 0 0],.bool false]) (by simp [results,results129,go_sem,e3,World.cell?_alloc_lt,q2]) rfl ?_;exact ⟨⟨none,0,0,false,rfl,q_ ⟨Nat.zero_le _,l_,o_,fun _=>⟨rfl,rfl⟩,fun _ h=>by cases h⟩⟩,(bel Az)⟩
 | true =>
  obtain ⟨i,j,x0,hi,AE,rfl,hj⟩:=readB_true hrb;obtain ⟨x,hx,rfl⟩:=po_at' AE;have HR:=q_ ((wrote_at (v:=v) hrb hi).trans (writeO_set AE));have AQ:=q_ hrb;have HI:=h_ (idxI id (l.map Ob.po)=i) yy_;have hin:i<n:=by rw [<-HL.o];exact (e_ hx).1
  have HX:=q_ hx;have HJ:=q_ hj;clear hrb hi AE hx hj;obtain ⟨W0,AH⟩:=ex_ (w3.alloc (.cells #[.bool (readD id (j:Int) (l.map Ob.po)).ref,i_ (readD id (j:Int) (l.map Ob.po)).n] 38));have Aj:Below w3 w3 W0:=by rw [AH];exact (bel (b_))
  have B1:=Aj.size;have A8:Below w2 w2 W0:=Ag.trans (Aj.mono AZ);have AF:=q_ ((As.o.up A8).sl.src Ob.size);have c0:W0.cell? (a_ w)=some (.slice A n c):=(belc A8 o_).trans HA.o;have s0:(w:Nat)<W0:=by omega
  go_wp2_with (at_builtin;rw [<-AH];refine bt_ rfl _ _ 33 rfl W0 90 i0 _ 2 32 underlying33 AT AV AW AX rfl d_ (.slice none 0 0) 0 [] zc_ (World.ownsRow_nil _ _ _ _) A n c (l.flatMap Ob.cells) zc_ AF.o.1 (by rw [cj_ Ob.size,HL.o]) AF.o.2 (ob_one l) m_ o_ (l_) ?_;intro A4 c4 w4 Aa An Au;have H4:=q_ Aa;have Aw:Below W0 W0 w4:=(b_).grown An (l_) (fun k hk=>by cases hk);have Bb:=Aw.size;have d0:=(belc Aw (b:=w) (o:=0) o_).trans c0;have s1:(w:Nat)<w4:=o_;clear Aa An Au);obtain ⟨W1,Af⟩:=ex_ (w4.alloc (.cells #[.slice A4 n c4] 35));have Ak:Below w4 w4 W1:=by rw [Af];exact (bel (b_))
  have B2:(W1:Nat)=w4+1:=by rw [Af];simp
  have A0:=own_eq (Nat.zero_add n) H4.o;rw [List.nil_append] at A0;obtain ⟨g,Au,B7,Ar,AB⟩:=dp_ A0 o_;subst Au;have AD:=Sl.da_ Ob.size HL.o A0;have Ai:=q_ A0;have g0:w4.cell? ⟨g,i*2,none⟩=some (i_ x.id):=by have:=sl_at AD HX.o (j:=0) rfl;rwa [Nat.zero_add] at this
  have g1:w4.cell? ⟨g,i*2+1,none⟩=some (.slice x.A x.n x.c):=by have:=sl_at AD HX.o (j:=1) rfl;rwa [Nat.zero_add] at this
  have z0:=AB (i*2);have z1:=AB (i*2+1);have k4:W1.cell? (a_ w4)=some (.slice (some (a_ g)) n c4):=by rw [Af,ar_ _ _ _ _ _ rfl];rfl
  have Ac:Below w2 w2 w4:=A8.trans (Aw.mono A8.size);have Ad:Below w2 w2 W1:=Ac.trans (Ak.mono Ac.size);rw [<-Af];have B3:=q_ Af;clear Af A0 AD AB c0 d0 e0;refine (refat_any A n c l id W1 (As.o.up Ad).sl o_).mono ?_;rintro e w5 ⟨rfl,Ax⟩;rw [HI.o];have B0:=Ax.size;have A9:Below w2 w2 w5:=Ad.trans (Ax.mono Ad.size);have Ae:Below w w w5:=A7.trans (A9.mono A7.size);have a0:w5.cell? (a_ w)=some (.slice A n c):=(belc A9 o_).trans HA.o;have AL:=HS.o.sl;obtain ⟨ab,ao,AS,AK,Av⟩:=AL.at_ o_;subst AS;have b0:w5.cell? ⟨ab,ao+i*2,none⟩=some (i_ x.id):=(belc Ae AK).trans (Av i x HX.o 0 _ rfl);have b1:w5.cell? ⟨ab,ao+i*2+1,none⟩=some (.slice x.A x.n x.c):=(belc Ae AK).trans (Av i x HX.o 1 _ rfl);obtain ⟨o1,o2⟩:=HS.o.obs x (List.mem_of_getElem? HX.o);have AU:(i:Int)<(n:Int):=by omega
  clear Av AL;go_wp2_with fail;refine (object_any x w5 (o1.up Ae) o2).mono ?_;rintro e w6 ⟨A6,n6,c6,rfl,A3,AC,Ay⟩;have Bc:=Ay.size;have B9:x.s.length=x.n:=o1.len;have AJ:j<x.s.length:=HJ.o;have Ao:n6=x.s.length:=AC;obtain ⟨f,AR,B5,B6,AA⟩:=dp_ A3.o o_;subst AR;have Aq:=Sl.da_ Val.size AC.symm A3.o;obtain ⟨t,ht⟩:∃ t,x.s[j]?=some t:=⟨_,ge_ AJ⟩;have t0:w6.cell? ⟨f,j*2,none⟩=some (.bool t.ref):=by have:=sl_at Aq (i:=j) (x:=t) ht (j:=0) rfl;rwa [Nat.zero_add] at this
  have t1:w6.cell? ⟨f,j*2+1,none⟩=some (i_ t.n):=by have:=sl_at Aq (i:=j) (x:=t) ht (j:=1) rfl;rwa [Nat.zero_add] at this
  have y0:=AA (j*2);have y1:=AA (j*2+1);have A2:Below w2 w2 w6:=A9.trans (Ay.mono A9.size);have Al:Below W1 W1 w6:=Ax.trans (Ay.mono B0);have A1:Below w4 w4 w6:=Ak.trans (Al.mono o_);have m1:w6.cell? (a_ (w+1))=some (.bool v.ref):=(belc A2 o_).trans AM.o;have m2:w6.cell? (f_ (w+1) 1)=some (i_ v.n):=(belc A2 o_).trans AN.o;have m3:w6.cell? (a_ (w+2))=some (.slice none 0 0):=(belc A2 o_).trans HD.o;have m4:w6.frozen? (a_ (w+2))=false:=(belf A2 o_).trans HF.o;have m5:w6.cell? (a_ w4)=some (.slice (some (a_ g)) n c4):=(belc Al o_).trans k4;have m6:w6.cell? ⟨g,i*2,none⟩=some (i_ x.id):=(belc A1 Ar).trans g0;have m7:w6.cell? ⟨g,i*2+1,none⟩=some (.slice x.A x.n x.c):=(belc A1 Ar).trans g1;have m8:w6.frozen? ⟨g,i*2,none⟩=false:=(belf A1 Ar).trans z0;have m9:w6.frozen? ⟨g,i*2+1,none⟩=false:=(belf A1 Ar).trans z1;have l1:(w:Nat)+1<w6:=by omega
  have l2:(w:Nat)+2<w6:=by omega
  have l3:(w4:Nat)<w6:=by omega
  have l4:g<w6:=by omega
  have d1:w+1≠f:=by omega
  have d2:w+2≠f:=by omega
  have d3:w4≠f:=by omega
  have d4:g≠f:=by omega
  have d5:w4≠g:=by omega
  have d6:w6≠f:=by omega
  have d7:w6≠g:=by omega
  have d8:w+2≠g:=by omega
  have B8:(j:Int)<(n6:Int):=by omega
  have AP:=q_ Ao;have AO:=q_ Aq;clear k4 g0 g1 z0 z1 a0 b0 b1 AC Ao Aq AA ht AJ;go_wp2;refine bodyPost_ret (v:=.tuple #[.agg #[.slice (some (a_ g)) n c4],.bool true]) (by simp [results,results129,go_sem,m3,World.cell?_alloc_lt,l2]) rfl ?_;have AY:Below w w w4:=A7.trans (Ac.mono A7.size);have B4:=AP.o;have Am:=(refwrite_fin (T:=w6) (y:=⟨x.id,some (a_ f),n6,c6,x.s⟩) (j:=j) (i:=i) (v:=v) (r:=w+2) (u:=.slice (some (a_ g)) n c4) HS.o AY Ai.o A1 AO.o rfl (by show n6<=8796093021952;omega) o_ (by show j<n6;omega) hin o_ o_ o_).up ((b_).alloc (l_) (.cells #[i_ x.id,.slice (some (a_ f)) n6 c6] 90));have AI:Below w w ((((((w6.setCell ⟨f,j*2,none⟩ (.bool v.ref)).setCell ⟨f,j*2+1,none⟩ (i_ v.n)).setCell ⟨g,i*2,none⟩ (i_ x.id)).setCell ⟨g,i*2+1,none⟩ (.slice (some (a_ f)) n6 c6)).setCell (a_ (w+2)) (.slice (some (a_ g)) n c4)).alloc (.cells #[i_ x.id,.slice (some (a_ f)) n6 c6] 90)):=by
   have hb:Below w w w6:=A7.trans (A2.mono A7.size);exact (((((hb.setCell w2_ _).setCell w2_ _).setCell z7_ _).setCell z7_ _).setCell y_ _).alloc zp_ _
  refine ⟨⟨_,n,c4,true,rfl,q_ (SlT.of_sl (e:=objT) Am.sl ?_ ?_ HT.o.le ?_)⟩,AI⟩
  ·refine (form_own Ai.o).mono ?_;have:=A1.size
   (simp <;> omega)
  ·intro ad Ab hx;injection Ab with Ab;subst Ab;have:=AG.o g hx;omega
  intro o ho;refine vts_ob ?_;rcases List.mem_or_eq_of_mem_set ho with hm | rfl
  ·exact (Ah.o o hm).up (Kp.of_below AI) (l_)
  refine SlT.of_vals (Am.obs _ ho).1 ?_ ?_ ?_
  ·refine (form_own A3.o).mono ?_
   (simp <;> omega)
  ·intro ad Ab hx;injection Ab with Ab;subst Ab;have:=AG.o f hx;omega
  have h1:=(Ah.o x (List.mem_of_getElem? HX.o)).le;show n6<=K
  omega
structure Cl where
 id:Int
 field:Int
 ref:Bool
 n:Int
structure Dl where
 id:Int
 field:Int
 op:Int
 ref:Bool
 n:Int
def RIdx (n:Nat) (e:Ending):Prop:=∃ q:Int,e=.returned (i_ q)/\Hid (q=-1\/∃ k:Nat,k<n/\q=(k:Int))
section
variable {X:NP} {w:World} {K n c k:Nat} {A:OA}
theorem SlT.at0 {e:List CT} (h:SlT w X K e A n c) (hk:k<n):∃ g o,A=some (f_ g o)/\g<w/\∃ vs,VTs w X K e vs/\∀ w',Below w w w'->∀ j u,vs[j]?=some u->w'.cell? ⟨g,o+k*e.length+j,none⟩=some u:=by
 obtain ⟨g,o,hA,hg,hX,vs,hv,hm⟩:=h.mt hk;exact ⟨g,o,hA,hg,vs,hv,fun w' hb j u hu=>(belc hb hg).trans (hm j u hu)⟩
theorem SlT.num_at (h:SlT w X K [.num] A n c) (hk:k<n):∃ g o,A=some (f_ g o)/\g<w/\∃ x:Int,∀ w',Below w w w'->w'.cell? ⟨g,o+k,none⟩=some (i_ x):=by
 obtain ⟨g,o,hA,hg,vs,hv,hm⟩:=h.at0 hk;obtain ⟨a,r1,rfl,ha,h1⟩:=hv.head;obtain ⟨a,rfl⟩:=ha.int;exact ⟨g,o,hA,hg,a,fun w' hb=>by have:=hm w' hb 0 _ rfl;simpa using this⟩
theorem SlT.dr_ (h:SlT w X K ap_ A n c) (hk:k<n):∃ g o,A=some (f_ g o)/\g<w/\∃ x:Cl,∀ w',Below w w w' →
  (w'.cell? ⟨g,o+k*4,none⟩=some (i_ x.id)/\w'.cell? ⟨g,o+k*4+1,none⟩=some (i_ x.field)/\w'.cell? ⟨g,o+k*4+2,none⟩=some (.bool x.ref)/\w'.cell? ⟨g,o+k*4+3,none⟩=some (i_ x.n)):=by
 obtain ⟨g,o,hA,hg,vs,hv,hm⟩:=h.at0 hk;obtain ⟨a,r1,rfl,ha,h1⟩:=hv.head;obtain ⟨b,r2,rfl,hb,h2⟩:=h1.head;obtain ⟨c,r3,rfl,hc,h3⟩:=h2.head;obtain ⟨d,r4,rfl,hd,h4⟩:=h3.head;obtain ⟨a,rfl⟩:=ha.int;obtain ⟨b,rfl⟩:=hb.int;obtain ⟨c,rfl⟩:=hc.bool;obtain ⟨d,rfl⟩:=hd.int;exact ⟨g,o,hA,hg,⟨a,b,c,d⟩,fun w' hw=>⟨hm w' hw 0 _ rfl,hm w' hw 1 _ rfl,hm w' hw 2 _ rfl,hm w' hw 3 _ rfl⟩⟩
theorem SlT.delta_at (h:SlT w X K bj_ A n c) (hk:k<n):∃ g o,A=some (f_ g o)/\g<w/\∃ x:Dl,∀ w',Below w w w' →
  (w'.cell? ⟨g,o+k*5,none⟩=some (i_ x.id)/\w'.cell? ⟨g,o+k*5+1,none⟩=some (i_ x.field)/\w'.cell? ⟨g,o+k*5+2,none⟩=some (i_ x.op)/\w'.cell? ⟨g,o+k*5+3,none⟩=some (.bool x.ref)/\w'.cell? ⟨g,o+k*5+4,none⟩=some (i_ x.n)):=by
 obtain ⟨g,o,hA,hg,vs,hv,hm⟩:=h.at0 hk;obtain ⟨a,r1,rfl,ha,h1⟩:=hv.head;obtain ⟨b,r2,rfl,hb,h2⟩:=h1.head;obtain ⟨c,r3,rfl,hc,h3⟩:=h2.head;obtain ⟨d,r4,rfl,hd,h4⟩:=h3.head;obtain ⟨f,r5,rfl,hf,h5⟩:=h4.head;obtain ⟨a,rfl⟩:=ha.int;obtain ⟨b,rfl⟩:=hb.int;obtain ⟨c,rfl⟩:=hc.int;obtain ⟨d,rfl⟩:=hd.bool;obtain ⟨f,rfl⟩:=hf.int;exact ⟨g,o,hA,hg,⟨a,b,c,d,f⟩,fun w' hw=>⟨hm w' hw 0 _ rfl,hm w' hw 1 _ rfl,hm w' hw 2 _ rfl,hm w' hw 3 _ rfl,hm w' hw 4 _ rfl⟩⟩
theorem SlT.obj_at (h:SlT w X K objT A n c) (hk:k<n):∃ g o,A=some (f_ g o)/\g<w/\∃ x:Ob,SlT w X K valT x.A x.n x.c/\Sl w w 2 Val.cells x.A x.n x.s/\∀ w',Below w w w' →
  (w'.cell? ⟨g,o+k*2,none⟩=some (i_ x.id)/\w'.cell? ⟨g,o+k*2+1,none⟩=some (.slice x.A x.n x.c)):=by
 obtain ⟨g,o,hA,hg,vs,hv,hm⟩:=h.at0 hk;obtain ⟨x,rfl,h1,h2⟩:=hv.obj;exact ⟨g,o,hA,hg,x,h1,h2,fun w' hw=>⟨hm w' hw 0 _ rfl,hm w' hw 1 _ rfl⟩⟩
end
theorem at_t (X:NP) (K:Nat) (A:OA) (n c:Nat) (id f:Int) (w:World) (h:SlT w X K ap_ A n c) (hK:K<=4398046510976) :
  Calls prog 131 #[.slice A n c,i_ id,i_ f] w fun e w'=>RIdx n e/\Below w w w':=by
 have H:=q_ h;have hn:n<=4398046510976:=Nat.le_trans h.le hK;clear h;go_enter func131,ntmps131;go_upto_region 2 with fail;go_loopw [11] (fun i wr=>∃ k:Nat,k<=n/\i=i_ k/\Below w w wr) (fun i _=>n - (intOf i).toNat)
 case atStart=>exact ⟨0,o_,rfl,b_⟩
 obtain ⟨k,hk,rfl,hb⟩:=hrel;have A1:=hb.size;by_cases hlt:k<n
 ·have A0:(k:Int)<(n:Int):=by omega
  obtain ⟨g,o,rfl,hg,x,hx⟩:=H.o.dr_ hlt;obtain ⟨c0,c1,c2,c3⟩:=hx wr hb;have HB:=q_ hb;have HR:=h_ (RIdx n (.returned (i_ (k:Int)))) (⟨_,rfl,q_ (.inr ⟨k,hlt,rfl⟩)⟩);clear hx hb;go_wp2;all_goals first
   | (go_ret;exact ⟨HR.o,(bel HB.o)⟩)
   | (go_roundw
      case rel=>exact ⟨k+1,o_,zb_,(bel HB.o)⟩
      case measure=>exact me_)
 have A0:¬(k:Int)<(n:Int):=by omega
 go_wp2;go_ret;exact ⟨⟨_,rfl,q_ (.inl rfl)⟩,hb⟩
end Go.Proofs.YtfolidlmgfhkiaaGreat
namespace Go.Proofs.YtfolidlmgfhkiaaGreat.Sq
open Go.RowKit Go.Proofs.Tryz
structure Rq (w:World) (t:Tk):Prop where
 rs:Sl w w 4 Cl.cells t.RA t.rn t.rs
 rn:t.rn<=1000000
 ws:Sl w w 4 Cl.cells t.WA t.wn t.ws
 wn:t.wn<=1000000
 ns:Sl w w 2 Ob.cells t.NA t.nn t.ns
 nn:t.nn<=1000000
 ds:Sl w w 5 Dt.cells t.DA t.dn t.ds
 dn:t.dn<=1000000
theorem Rq.up {w w':World} {t:Tk} (h:Rq w t) (hb:Below w w w'):Rq w' t :=
 ⟨h.rs.up hb,h.rn,h.ws.up hb,h.wn,h.ns.up hb,h.nn,h.ds.up hb,h.dn⟩
theorem run_store_fn (P:Program) (w:World) (a:Addr) (fn:Fn) (first captured:Array Value) (m:Mode):(store a (.func fn first captured) m).run P w=stored P w a (.func fn first captured) m:=run_store P w a _ m rfl
attribute [local go_sem] run_store_fn
theorem same_any (a b id field:Int) (p:Nat) (w:World) (h0:w.cell? (a_ p)=some (i_ id)) (h1:w.cell? (f_ p 1)=some (i_ field)) :
  Calls prog 143 #[i_ a,i_ b,.pointer (some (a_ p))] w fun e w'=>e=.returned (.bool (a == id && b == field))/\Below w w w':=by
 go_enter func143,ntmps143;by_cases ha:a=id
 ·by_cases hb:b=field
  ·have hv:(a == id && b == field)=true:=by simp [ha,hb]
   have HV:=q_ hv;clear hv;go_wp2_with fail;go_ret;exact ⟨by rw [HV.o];first | rfl | simp [ha,hb],b_⟩
  have hv:(a == id && b == field)=false:=by simp [hb]
  have HV:=q_ hv;clear hv;go_wp2_with fail;go_ret;exact ⟨by rw [HV.o];first | rfl | simp [ha,hb],b_⟩
 have hv:(a == id && b == field)=false:=by simp [ha]
 have HV:=q_ hv;clear hv;go_wp2_with fail;go_ret;exact ⟨by rw [HV.o];first | rfl | simp [ha],b_⟩
theorem same_ob (x:Ob) (id:Int) (p:Nat) (w:World) (h0:w.cell? (a_ p)=some (i_ id)) (hp:p<w) :
  Calls prog 145 #[.agg #[i_ x.id,.slice x.A x.n x.c],.pointer (some (a_ p))] w fun e w'=>e=.returned (.bool (sameO id x))/\Below w w w':=by
 obtain ⟨W,hW,A0,A2,B0⟩:=af_ w [i_ x.id,.slice x.A x.n x.c] 90;have A3:=(belc A0 (b:=p) (o:=0) hp).trans h0;have q0:=B0.2.1 0 _ rfl;have A1:=q_ A0;clear A0 B0 hp h0;go_enter func145,ntmps145;go_upto_region 1 with fail;rw [<-hW];clear hW;by_cases ha:x.id=id
 ·have hv:sameO id x=true:=by simp [sameO,ha]
  have HV:=q_ hv;clear hv;go_wp2_with fail;go_ret;exact ⟨by rw [HV.o];first | rfl | simp [ha],A1.o⟩
 have hv:sameO id x=false:=by simp [sameO,ha]
 have HV:=q_ hv;clear hv;go_wp2_with fail;go_ret;exact ⟨by rw [HV.o];first | rfl | simp [ha],A1.o⟩
theorem same_cl (x:Cl) (id field:Int) (p q:Nat) (w:World) (hp:w.cell? (a_ p)=some (.func (.func 143) #[] #[.pointer (some (a_ q))])) (h0:w.cell? (a_ q)=some (i_ id)) (h1:w.cell? (f_ q 1)=some (i_ field)) (hpl:p<w) (hql:q<w) :
  Calls prog 146 #[.agg #[i_ x.id,i_ x.field,.bool x.ref,i_ x.n],.pointer (some (a_ p))] w fun e w'=>e=.returned (.bool (sameC id field x))/\Below w w w':=by
 obtain ⟨W,hW,A0,A2,B0⟩:=af_ w [i_ x.id,i_ x.field,.bool x.ref,i_ x.n] 87;have A3:=(belc A0 (b:=p) (o:=0) hpl).trans hp;have g0:=(belc A0 (b:=q) (o:=0) hql).trans h0;have g1:=(belc A0 (b:=q) (o:=1) hql).trans h1;have q0:=B0.2.1 0 _ rfl;have q1:=B0.2.1 1 _ rfl;have A1:=q_ A0;clear A0 B0 hp h0 h1 hpl hql;go_enter func146,ntmps146;exact v2_
theorem same_dt (x:Dt) (id field:Int) (p q:Nat) (w:World) (hp:w.cell? (a_ p)=some (.func (.func 143) #[] #[.pointer (some (a_ q))])) (h0:w.cell? (a_ q)=some (i_ id)) (h1:w.cell? (f_ q 1)=some (i_ field)) (hpl:p<w) (hql:q<w) :
  Calls prog 148 #[.agg #[i_ x.id,i_ x.field,i_ x.op,.bool x.ref,i_ x.n],.pointer (some (a_ p))] w fun e w'=>e=.returned (.bool (sameD id field x))/\Below w w w':=by
 obtain ⟨W,hW,A0,A2,B0⟩:=af_ w [i_ x.id,i_ x.field,i_ x.op,.bool x.ref,i_ x.n] 174;have A3:=(belc A0 (b:=p) (o:=0) hpl).trans hp;have g0:=(belc A0 (b:=q) (o:=0) hql).trans h0;have g1:=(belc A0 (b:=q) (o:=1) hql).trans h1;have q0:=B0.2.1 0 _ rfl;have q1:=B0.2.1 1 _ rfl;have A1:=q_ A0;clear A0 B0 hp h0 h1 hpl hql;go_enter func148,ntmps148;exact v2_
theorem has_any (t:Tk) (id field:Int) (r:Bool) (n:Int) (w:World) (hR:Rq w t) :
  Calls prog 92 #[.agg t.cells.toArray,.agg #[i_ id,i_ field,.bool r,i_ n]] w fun e w'=>e=.returned (.bool (gives id field t))/\Below w w w':=by
 obtain ⟨W,hW,Ag,Ak,B0,B1⟩:=cb_ w t.cells 65 [i_ id,i_ field,.bool r,i_ n] 87;obtain ⟨b3,Ah⟩:=ex_ (w.heap.size+1);rw [<-Ah] at B1;obtain ⟨V,hV,Aa,As,B5⟩:=af_ W [.func (.func 143) #[] #[.pointer (some (a_ b3))]] 246;obtain ⟨b5,Al⟩:=ex_ W.heap.size;rw [<-Al] at B5;have A1:=h_ (Below w.heap.size w V) (Ag.trans (Aa.mono Ag.size));have Ae:=q_ (hR.up A1.o);have Ab:=q_ (B0.below Aa);have A3:=q_ (B1.below Aa);have Ai:=q_ B5;have HZ:=q_ Ak;have c39:=Ab.o.2.1 39 _ t.c39;go_enter func92,ntmps92;go_upto_region 2 with fail;rw [<-hW];rw [<-Ah,<-hV,show b3+1=b5 by omega];clear hW hV Ag Aa B0 B1 B5 hR Ah Al Ak As;go_wp2_with fail;refine (SqXO.con t.NA t.nn t.nc t.ns (sameO id) b3 V Ae.o.ns (by have:=Ae.o.nn;omega) (fun x _ w' hb=>same_ob x id b3 w' ((A3.o.below hb).2.1 0 _ rfl) (A3.o.below hb).1)).mono ?_;rintro e w1 ⟨rfl,A0⟩;have A6:=q_ A0;have Ad:=q_ (Ae.o.up A0);cases hg1:t.ns.any (sameO id)
 ·have Ao:=fun w' (hb:Below w1 w1 w')=>(((Ai.o.below A0).below hb).2.1 0 _ rfl)
  have Ap:=fun w' (hb:Below w1 w1 w')=>(((A3.o.below A0).below hb).2.1 0 _ rfl)
  have Aq:=fun w' (hb:Below w1 w1 w')=>(((A3.o.below A0).below hb).2.1 1 _ rfl)
  have An:=fun w' (hb:Below w1 w1 w')=>((Ai.o.below A0).below hb).1
  have Am:=fun w' (hb:Below w1 w1 w')=>((A3.o.below A0).below hb).1
  have HQ:=q_ (And.intro Ao (And.intro Ap (And.intro Aq (And.intro An Am))));have c38:=(Ab.o.below A0).2.1 38 _ t.c38;have HG:=q_ hg1;clear c39 Ao Ap Aq An Am hg1;go_wp2_with fail;refine (SqXC.con t.WA t.wn t.wc t.ws (sameC id field) b5 w1 Ad.o.ws (by have:=Ad.o.wn;omega) (fun x _ w' hb=>same_cl x id field b5 b3 w' (HQ.o.1 w' hb) (HQ.o.2.1 w' hb) (HQ.o.2.2.1 w' hb) (HQ.o.2.2.2.1 w' hb) (HQ.o.2.2.2.2 w' hb))).mono ?_;rintro e w2 ⟨rfl,A2⟩;have Af:=q_ A2;have Aj:=q_ (Ad.o.up A2);cases hg2:t.ws.any (sameC id field)
  ·have c40:=((Ab.o.below A0).below A2).2.1 40 _ t.c40;have Ar:=q_ hg2;have A8:∀ w',Below w2 w2 w'->Below w1 w1 w':=fun w' hb=>A2.trans (hb.mono A2.size)
   have HL:=q_ A8;clear c38 hg2 A0 A2 A8;go_wp2_with fail;refine (SqXD.con t.DA t.dn t.dc t.ds (sameD id field) b5 w2 Aj.o.ds (by have:=Aj.o.dn;omega) (fun x _ w' A7=>same_dt x id field b5 b3 w' (HQ.o.1 w' (HL.o w' A7)) (HQ.o.2.1 w' (HL.o w' A7)) (HQ.o.2.2.1 w' (HL.o w' A7)) (HQ.o.2.2.2.1 w' (HL.o w' A7)) (HQ.o.2.2.2.2 w' (HL.o w' A7)))).mono ?_;rintro e w3 ⟨rfl,A9⟩;have A4:=q_ (A1.o.trans ((A6.o.trans ((Af.o.trans (A9.mono Af.o.size)).mono A6.o.size)).mono A1.o.size));have A5:=q_ (show gives id field t=t.ds.any (sameD id field) by unfold gives;rw [HG.o,Ar.o];rfl);clear A9;exact tc_
  have A5:=q_ (show gives id field t=true by unfold gives;rw [HG.o,hg2];rfl);have A4:=q_ (A1.o.trans ((A6.o.trans (Af.o.mono A6.o.size)).mono A1.o.size));clear c38 hg2 A0 A2;exact tc_
 have A5:=q_ (show gives id field t=true by unfold gives;rw [hg1];rfl);have A4:=q_ (A1.o.trans (A6.o.mono A1.o.size));clear c39 hg1 A0;exact tc_
end Go.Proofs.YtfolidlmgfhkiaaGreat.Sq
