/- Lemmas on functions of the program, under the conditions that each states. -/
import Derived.Test.YtfolidlmgfhkiaaGreatY04
set_option linter.unusedVariables false
set_option linter.unusedSimpArgs false
set_option maxRecDepth 100000
set_option maxHeartbeats 20000000
namespace Go.Proofs.YtfolidlmgfhkiaaGreat
open Go.RowKit Go.Proofs.Tryz
def RI (e:Ending):Prop:=∃ n:Int,e=.returned (i_ n)
theorem nodes_step (kd n:Int) (s:ByteArray) (op:Int) (A:OA) (m c:Nat) (left:Int) (w:World) (hm:m<=900000000) (hsz:s.size<=100)
  (hk:∀ k,k<m->∃ (g o:Nat) (kd' n':Int) (s':ByteArray) (op':Int) (A':OA) (m' c':Nat),A=some (f_ g o)/\g<w/\w.cell? ⟨g,o+k*5,none⟩=some (i_ kd')/\w.cell? ⟨g,o+k*5+1,none⟩=some (i_ n')/\w.cell? ⟨g,o+k*5+2,none⟩=some (.string s')/\w.cell? ⟨g,o+k*5+3,none⟩=some (i_ op')/\w.cell? ⟨g,o+k*5+4,none⟩=some (.slice A' m' c') ∧
   ∀ (w':World) (l':Int),Below w w w'->Calls prog 209 #[.agg #[i_ kd',i_ n',.string s',i_ op',.slice A' m' c'],i_ l'] w' fun e w''=>RI e/\Below w' w' w'') :
  Calls prog 209 #[.agg #[i_ kd,i_ n,.string s,i_ op,.slice A m c],i_ left] w fun e w'=>RI e/\Below w w w':=by
 obtain ⟨W,hW,A8,Ac,B0⟩:=ag_ w [i_ kd,i_ n,.string s,i_ op,.slice A m c] 209;have KC:=h_ (∀ w',Below W W w'->(w'.cell? (a_ w)=some (i_ kd)/\w'.cell? (f_ w 1)=some (i_ n)/\w'.cell? (f_ w 2)=some (.string s)/\w'.cell? (f_ w 3)=some (i_ op)/\w'.cell? (f_ w 4)=some (.slice A m c))) (fun w' hb =>
  ⟨(B0.below hb).2.1 0 _ rfl,(B0.below hb).2.1 1 _ rfl,(B0.below hb).2.1 2 _ rfl,(B0.below hb).2.1 3 _ rfl,(B0.below hb).2.1 4 _ rfl⟩)
 have HW:=q_ A8;have HS:=q_ hsz;have HK:=q_ hk;obtain ⟨x0,x1,x2,x3,x4⟩:=KC.o W (b_);clear B0 A8 hk hsz;go_enter func209,ntmps209;go_upto_region 1 with fail;rw [<-hW];clear hW;go_wp2_with fail;refine (Name_any op W).mono ?_;rintro e W1 ⟨⟨sx,b6,rfl⟩,A7⟩;have H1:=q_ A7;clear x0 x1 x2 x3 x4 A7;obtain ⟨x0,x1,x2,x3,x4⟩:=KC.o W1 H1.o;go_upto_block 0 with fail;go_cut [7,8,9] (fun nb A6 ok wx=>∃ (b:Bool) (q:Int) (o:Bool),nb=.bool b/\A6=i_ q/\ok=.bool o/\Hid (Below W1 W1 wx))
 case first =>
  by_cases h4:kd=4
  ·subst h4;go_upto_region 13 with fail;have A5:s.toList.isEmpty=true\/s.toList.isEmpty=false:=by cases s.toList.isEmpty;exact .inr rfl;exact .inl rfl
   rcases A5 with hs | hs <;> by_cases hn:(0:Int)<=n
   all_goals
    go_quiet (fail);go_wp2;go_meet;exact ⟨_,_,_,rfl,rfl,rfl,q_ (bel (b_))⟩
  by_cases h6:kd=6
  ·subst h6;go_upto_region 17 with fail;have A5:s.toList.isEmpty=true\/s.toList.isEmpty=false:=by cases s.toList.isEmpty;exact .inr rfl;exact .inl rfl
   rcases A5 with hs | hs <;> by_cases hn:(0:Int)<=n
   all_goals
    go_quiet (fail);go_wp2;go_meet;exact ⟨_,_,_,rfl,rfl,rfl,q_ (bel (b_))⟩
  go_wp2_with (go_at_call 186;refine (Name05_any _ _ HS.o).mono ?_;rintro e w1 ⟨⟨b,rfl⟩,hb⟩;have A3:=q_ hb;clear x0 x1 x2 x3 x4;obtain ⟨x0,x1,x2,x3,x4⟩:=KC.o w1 (H1.o.trans (A3.o.mono H1.o.size)));all_goals
   go_meet;first
    | exact ⟨_,_,_,rfl,rfl,rfl,A3⟩
    | exact ⟨_,_,_,rfl,rfl,rfl,q_ (bel (b_))⟩
 rename World=>wx
 obtain ⟨b7,q8,b9,rfl,rfl,rfl,Ab⟩:=hcut;have HX:=q_ (H1.o.trans (Ab.o.mono H1.o.size));clear x0 x1 x2 x3 x4;obtain ⟨x0,x1,x2,x3,x4⟩:=KC.o wx HX.o;have Ag:(w:Nat)<wx:=by have:=HX.o.size;omega
 go_upto_region 18 with fail;go_cut [114] (fun v wy=>∃ b:Bool,v=.bool b/\Hid (wy=wx))
 case first =>
  cases b9 <;> cases b7
  all_goals
   go_wp2;all_goals
    go_meet;exact ⟨_,rfl,q_ rfl⟩
 case rest =>
 rename World=>wy
 obtain ⟨b,rfl,A9⟩:=hcut;have hw:=A9.o;subst hw;clear A9;cases b
 case true =>
  go_wp2;go_ret;exact ⟨⟨_,rfl⟩,HW.o.trans (HX.o.mono HW.o.size)⟩
 go_upto_region 22 with fail;go_loopw [10,118] (fun q i wr=>∃ (k:Nat) (a:Int),k<=m/\q=i_ a/\i=i_ k/\Hid (Below wy wy wr)) (fun _ i _=>m - (intOf i).toNat)
 case atStart=>exact ⟨0,1,o_,rfl,rfl,q_ (b_)⟩
 obtain ⟨k,a,Ae,rfl,rfl,HR⟩:=hrel;have A2:=q_ (HW.o.trans ((HX.o.trans (HR.o.mono HX.o.size)).mono HW.o.size));have Af:(w:Nat)<=wr:=A2.o.size;have Ah:(wy:Nat)<=wr:=HR.o.size;by_cases hlt:k<m
 ·have A4:(k:Int)<(m:Int):=by omega
  obtain ⟨g,o,kd',n',s',op',A',m',c',rfl,hg,k0,k1,k2,k3,k4,A0⟩:=HK.o k hlt;have Ad:g<wr:=lt_ hg A2.o.size;have A1:∀ j,wr.cell? (f_ g j)=w.cell? (f_ g j):=fun j=>belc A2.o hg
  rw [<-A1] at k0 k1 k2 k3 k4;have Aa:=q_ A0;clear A1 A0 x0 x1 x2 x3 x4;by_cases ha:a<17
  ·go_wp2_with (go_at_call 209;refine (Aa.o _ _ (bel A2.o)).mono ?_;rintro e w1 ⟨⟨r,rfl⟩,hb⟩;have A3:=h_ (Below wy wy w1) (Below.trans (b:=_) (bel HR.o) (hb.mono (by simp <;> (have:=HR.o.size;omega)))));go_roundw
   case rel=>exact ⟨k+1,_,o_,rfl,za_,A3⟩
   case measure=>exact me_
  go_wp2;go_roundw
  case rel=>exact ⟨k+1,_,o_,rfl,za_,q_ (bel HR.o)⟩
  case measure=>exact me_
 have A4:¬(k:Int)<(m:Int):=by omega
 go_wp2;go_ret;exact ⟨⟨_,rfl⟩,(bel A2.o)⟩
theorem pE_size {kd n:Int} {s:ByteArray} {op:Int} {A:OA} {m c:Nat} (h:pE [i_ kd,i_ n,.string s,i_ op,.slice A m c]):s.size<=100:=by
 obtain ⟨A0,n',s',A1,A',m',c',e,_,_,hs⟩:=h;injection e with _ e;injection e with _ e;injection e with e _;injection e with e;subst e;exact hs
theorem nodes_any (X:NP) (K:Nat) (hK:K<=900000000):∀ (d:Nat) (vs:VL) (left:Int) (w:World),VTs w X K (be_ d) vs->pE vs->Calls prog 209 #[.agg vs.toArray,i_ left] w fun e w'=>RI e/\Below w w w'
 | 0,vs,left,w,h,hp0=>by
  obtain ⟨kd,n,s,op,A,c,rfl⟩:=h.expr0;exact nodes_step kd n s op A 0 c left w o_ (pE_size hp0) (fun k hk=>o_)
 | d+1,vs,left,w,h,hp0=>by
  obtain ⟨kd,n,s,op,A,m,c,rfl,hp⟩:=h.expr;refine nodes_step kd n s op A m c left w (Nat.le_trans hp.sl.le hK) (pE_size hp0) (fun k hk=>?_);obtain ⟨g,o,us,rfl,hg,hX,hu,A0,hc⟩:=hp.el hk;have A1:=A0;obtain ⟨A2,n',s',A3,A',m',c',rfl,_,_,_⟩:=A0;rw [ea_] at hc;exact ⟨g,o,A2,n',s',A3,A',m',c',rfl,hg,hc 0 _ rfl,hc 1 _ rfl,hc 2 _ rfl,hc 3 _ rfl,hc 4 _ rfl,fun w' l' hb=>nodes_any X K hK d _ l' w' (hu.up (.of_below hb) (l_)) A1⟩
theorem Expr_any (X:NP) (K:Nat) (hK:K<=900000000) (d:Nat) (vs:VL) (w:World) (h:VTs w X K (be_ d) vs) (hp:pE vs):Calls prog 208 #[.agg vs.toArray] w fun e w'=>RB e/\Below w w w':=by
 have HP:=q_ hp;clear hp;obtain ⟨kd,n,s,op,A,m,c,rfl⟩:∃ (kd n:Int) (s:ByteArray) (op:Int) (A:OA) (m c:Nat),vs=[i_ kd,i_ n,.string s,i_ op,.slice A m c]:=by
  cases d with
  | zero=>obtain ⟨kd,n,s,op,A,c,rfl⟩:=h.expr0;exact ⟨kd,n,s,op,A,0,c,rfl⟩
  | succ d=>obtain ⟨kd,n,s,op,A,m,c,rfl,_⟩:=h.expr;exact ⟨kd,n,s,op,A,m,c,rfl⟩
 have H:=q_ h;clear h;go_enter func208,ntmps208;go_wp2_with (go_at_call 209;refine (nodes_any X K hK d _ _ _ (H.o.up (Kp.of_below (bel (b_))) (l_)) HP.o).mono ?_;rintro e w1 ⟨⟨r,rfl⟩,hb⟩;have A0:=h_ (Below w w w1) (Below.trans (b:=_) (bel (b_)) (hb.mono t_)));go_ret;exact ⟨⟨_,rfl⟩,A0.o⟩
def KOk (blk k:Nat) (v:Value):Prop :=
 match k with
 | 0=>∃ x,v=.bool x
 | 1=>∃ n,v=.int .i64 n
 | 2=>∃ x:ByteArray,v=.string x/\x.size<=100
 | 3=>∃ A n c,v=.slice A n c
 | o+4=>v=.pointer (some ⟨blk,o,none⟩)
structure St (N blk:Nat) (G:List (Nat × Nat × Option (Nat × Bool))) (a:Act):Prop where
 sz:a.tmps.size=N
 df:a.defers=[]
 ok:∀ t k g,(t,k,g) ∈ G->(∀ s b,g=some (s,b)->a.tmps.getD s undef=.bool b)->KOk blk k (a.tmps.getD t undef)
theorem St.get {N blk:Nat} {G:List (Nat × Nat × Option (Nat × Bool))} {a:Act} (h:St N blk G a) {t k:Nat} (hm:(t,k,none) ∈ G):KOk blk k (a.eval (.tmp t)):=h.ok t k none hm (fun _ _ h=>by cases h)
theorem St.getg {N blk:Nat} {G:List (Nat × Nat × Option (Nat × Bool))} {a:Act} (h:St N blk G a) {t k s:Nat} {b:Bool} (hm:(t,k,some (s,b)) ∈ G) (hs:a.tmps.getD s undef=.bool b):KOk blk k (a.eval (.tmp t)):=h.ok t k _ hm (fun _ _ h=>by injection h with h;injection h with h1 h2;subst h1 h2;exact hs)
def frs (d:Nat) (G:List (Nat × Nat × Option (Nat × Bool))):Bool:=G.all fun e=>e.1 != d && (match e.2.2 with | none=>true | some (s,_)=>s != d)
theorem getD_put {a:Act} {d t:Nat} {v:Value} (hd:d<a.tmps.size):(a.put (some d) v).tmps.getD t undef=if t=d then v else a.tmps.getD t undef:=by
 show (a.tmps.setIfInBounds d v).getD t undef=_
 rw [Array.getD_eq_getD_getElem?,Array.getElem?_setIfInBounds,Array.getD_eq_getD_getElem?];by_cases h:t=d
 ·subst h;rw [if_pos rfl,if_pos rfl,if_pos hd];rfl
 rw [if_neg (fun e=>h e.symm),if_neg h]
theorem St.put {N blk:Nat} {G:List (Nat × Nat × Option (Nat × Bool))} {a:Act} (h:St N blk G a) {d k:Nat} {g:Option (Nat × Bool)} {v:Value} (hd:d<N) (hf:frs d G=true) (hgd:∀ s b,g=some (s,b)->s≠d) (hv:(∀ s b,g=some (s,b)->a.tmps.getD s undef=.bool b)->KOk blk k v):St N blk ((d,k,g) :: G) (a.put (some d) v):=by
 have A1:d<a.tmps.size:=by rw [h.sz];exact hd
 refine ⟨by show (a.tmps.setIfInBounds d v).size=N;rw [Array.size_setIfInBounds];exact h.sz,h.df,fun t k' g' hm hg=>?_⟩;rcases List.mem_cons.1 hm with he | hm
 ·injection he with e1 e2;injection e2 with e2 e3;subst e1 e2 e3;rw [getD_put A1,if_pos rfl];refine hv (fun s b hs=>?_);have:=hg s b hs
  rwa [getD_put A1,if_neg (hgd s b hs)] at this
 have A0:=List.all_eq_true.1 hf _ hm;simp only [Bool.and_eq_true,bne_iff_ne,ne_eq] at A0;rw [getD_put A1,if_neg A0.1];refine h.ok t k' g' hm (fun s b hs=>?_);have h2:=A0.2;subst hs;have:=hg s b rfl
 rwa [getD_put A1,if_neg xx_] at this
section
variable {P:Program} {ops:Array Oper} {Q:Exit->Act->World->Prop} {rest:List Oper} {o:Oper} {a:Act} {w:World} {N blk d k:Nat} {G:List (Nat × Nat × Option (Nat × Bool))} {Inv:World->Prop}
def Rn (P:Program) (Q:Exit->Act->World->Prop) (blk:Nat) (Inv:World->Prop) (o:Oper) (a:Act) (w:World) (k:Nat):Prop:=∀ K:Act->World->Prop,(∀ v w',KOk blk k v->Inv w'->K (a.put o.dst v) w')->o.wp P a w K Q
theorem st_u (k:Nat) (H:St N blk G a) (hg:o.guard=none) (hd:o.dst=some d) (hN:d<N) (hf:frs d G=true) (hr:Rn P Q blk Inv o a w k) (h:∀ a' w',St N blk ((d,k,none) :: G) a'->Inv w'->wpList P ops Q rest a' w'):wpList P ops Q (o :: rest) a w:=by
 refine wpList_plain hg fun K hK=>hr K (fun v w' hv hi=>hK _ _ ?_)
 rw [hd];exact h _ _ (H.put hN hf (fun _ _ h=>by cases h) (fun _=>hv)) hi
theorem st_g (k:Nat) {j s:Nat} {b:Bool} (H:St N blk G a) (hI:Inv w) (hg:o.guard=some (j,b)) (hj:(ops[j]?).bind (·.dst)=some s) (hs:s<N) (hsd:s≠d) (hd:o.dst=some d) (hN:d<N) (hf:frs d G=true) (hr:a.tmps.getD s undef=.bool b->Rn P Q blk Inv o a w k) (h:∀ a' w',St N blk ((d,k,some (s,b)) :: G) a'->Inv w'->wpList P ops Q rest a' w'):wpList P ops Q (o :: rest) a w:=by
 have hy:yielded ops a.tmps j=some b↔a.tmps.getD s undef=.bool b:=by
  have A0:s<a.tmps.size:=by rw [H.sz];exact hs
  unfold yielded;rw [hj];show (match a.tmps[s]? with | some (.bool b)=>some b | _=>none)=some b↔_
  rw [Array.getD_eq_getD_getElem?,Array.getElem?_eq_getElem A0];simp only [Option.getD_some];cases a.tmps[s] <;> simp
 refine wpList_step fun K hK=>?_
 by_cases hw:a.tmps.getD s undef=.bool b
 ·have:Region.wanted o (yielded ops a.tmps)=true:=by simp [Region.wanted,hg,hy.2 hw]
  rw [if_pos this];refine hr hw K (fun v w' hv hi=>hK _ _ ?_);rw [hd];exact h _ _ (H.put hN hf (fun s' b' e=>by injection e with e;injection e with e1 e2;subst e1;exact hsd) (fun _=>hv)) hi
 have:Region.wanted o (yielded ops a.tmps)=false:=by
  have hne:yielded ops a.tmps j≠some b:=fun e=>hw (hy.1 e)
  simp [Region.wanted,hg];exact hne
 rw [if_neg (by rw [this];decide)];refine hK _ _ ?_;rw [hd];exact h _ _ (H.put hN hf (fun s' b' e=>by injection e with e;injection e with e1 e2;subst e1;exact hsd) (fun hc=>absurd (hc s b rfl) hw)) hI
theorem abs_wp {l:List Oper} (R:Act->World->Prop) (hR:R a w) (h:∀ a w,R a w->wpList P ops Q l a w):wpList P ops Q l a w:=h _ _ hR
theorem St.start (hs:a.tmps.size=N) (hd:a.defers=[]):St N blk [] a:=⟨hs,hd,fun _ _ _ h=>by cases h⟩
theorem St.know (h:St N blk G a) (t:Nat) (hk:KOk blk k (a.tmps.getD t undef)):St N blk ((t,k,none) :: G) a:=⟨h.sz,h.df,fun t' k' g hm hg=>by
 rcases List.mem_cons.1 hm with he | hm
 ·injection he with e1 e2
  injection e2 with e2 e3
  subst e1 e2
  exact hk
 exact h.ok t' k' g hm hg⟩
/- The operations. -/
theorem eo_ {v:Value} (hr:(execOp a.eval o).run P w=.ok (.value v) w) (hv:KOk blk k v) (hI:Inv w):Rn P Q blk Inv o a w k:=fun K hK=>by
 unfold Oper.wp;rw [hr];exact hK _ _ hv hI
theorem bh_ {x:Operand} (ho:o.op=.move x\/o.op=.assign x) (hx:KOk blk k (a.eval x)) (hI:Inv w):Rn P Q blk Inv o a w k:=by
 generalize hr:a.eval=r at hx;refine eo_ (v:=r x) vf_ hx hI
theorem rn_not {x:Operand} {T:TypeId} (ho:o.op=.unOp .not T x) (hx:KOk blk 0 (a.eval x)) (hI:Inv w):Rn P Q blk Inv o a w 0:=by
 obtain ⟨b,hb⟩:=hx;generalize hr:a.eval=r at hb;exact eo_ (v:=.bool (!b)) wg_ ⟨_,rfl⟩ hI
theorem bz_ {c x y:Operand} (ho:o.op=.pick c x y) (hc:KOk blk 0 (a.eval c)) (hx:a.eval c=.bool true->KOk blk k (a.eval x)) (hy:a.eval c=.bool false->KOk blk k (a.eval y)) (hI:Inv w):Rn P Q blk Inv o a w k:=by
 obtain ⟨b,hb⟩:=hc;generalize hr:a.eval=r at hb hx hy;cases b
 ·exact eo_ (v:=r y) wg_ (hy hb) hI
 exact eo_ (v:=r x) wg_ (hx hb) hI
end
section
variable {ops:Array Oper} {Q:Exit->Act->World->Prop} {rest:List Oper} {o:Oper} {a:Act} {w:World} {N blk d k:Nat} {G:List (Nat × Nat × Option (Nat × Bool))} {Inv:World->Prop}
theorem rn_cmp {x y:Operand} {bop:BinOp} {T:TypeId} (hb:bop=.geq\/bop=.lss\/bop=.neq\/bop=.gtr\/bop=.eql) (hT:T=3\/T=2) (ho:o.op=.binOp bop T x y T) (hx:KOk blk 1 (a.eval x)) (hy:KOk blk 1 (a.eval y)) (hI:Inv w):Rn prog Q blk Inv o a w 0:=by
 obtain ⟨m,hm⟩:=hx;obtain ⟨n,hn⟩:=hy;generalize hr:a.eval=r at hm hn;rcases hb with rfl | rfl | rfl | rfl | rfl
 ·exact eo_ (v:=.bool (decide (n<=m))) zt_ ⟨_,rfl⟩ hI
 ·exact eo_ (v:=.bool (decide (m<n))) zt_ ⟨_,rfl⟩ hI
 ·exact eo_ (v:=.bool (m != n)) zt_ ⟨_,rfl⟩ hI
 ·exact eo_ (v:=.bool (decide (n<m))) zt_ ⟨_,rfl⟩ hI
 exact eo_ (v:=.bool (m == n)) zt_ ⟨_,rfl⟩ hI
theorem rn_eqs {x y:Operand} (ho:o.op=.binOp .eql 9 x y 9) (hx:KOk blk 2 (a.eval x)) (hy:KOk blk 2 (a.eval y)) (hI:Inv w):Rn prog Q blk Inv o a w 0:=by
 obtain ⟨m,hm,_⟩:=hx;obtain ⟨n,hn,_⟩:=hy;generalize hr:a.eval=r at hm hn;exact eo_ (v:=.bool (m.toList == n.toList)) (by rw [hr];simp [execOp,ho,hm,hn,go_sem]) ⟨_,rfl⟩ hI
theorem dp_ {x:Operand} {f:Nat} (ho:o.op=.fieldAddr 212 x f) (hf:f<8) (hx:KOk blk 4 (a.eval x)) (hI:Inv w):Rn prog Q blk Inv o a w (f+4):=by
 have hx:a.eval x=.pointer (some (a_ blk)):=hx;generalize hr:a.eval=r at hx;refine eo_ (v:=.pointer (some (f_ blk f))) ?_ rfl hI;rw [hr]
 match f,hf with
 | 0,_=>simp [execOp,ho,hx,go_sem]
 | 1,_=>simp [execOp,ho,hx,go_sem]
 | 2,_=>simp [execOp,ho,hx,go_sem]
 | 3,_=>simp [execOp,ho,hx,go_sem]
 | 4,_=>simp [execOp,ho,hx,go_sem]
 | 5,_=>simp [execOp,ho,hx,go_sem]
 | 6,_=>simp [execOp,ho,hx,go_sem]
 | 7,_=>simp [execOp,ho,hx,go_sem]
theorem es_ {x:Operand} {T:TypeId} {f:Nat} {v:Value} (hT:T=3\/T=2\/T=9\/T=192\/T=207) (ho:o.op=.load T x) (hx:KOk blk (f+4) (a.eval x)) (hc:w.cell? (f_ blk f)=some v) (hv:KOk blk k v) (hI:Inv w):Rn prog Q blk Inv o a w k:=by
 have hx:a.eval x=.pointer (some (f_ blk f)):=hx;generalize hr:a.eval=r at hx;refine eo_ (v:=v) ?_ hv hI;rw [hr];rcases hT with rfl | rfl | rfl | rfl | rfl <;> simp [execOp,ho,hx,hc,go_sem]
theorem rn_len {x:Operand} {T:TypeId} (hT:T=192\/T=207) (ho:o.op=.call { callee:=.builtin .len,args:=#[x],argTypes:=#[T] }) (hx:KOk blk 3 (a.eval x)) (hI:Inv w):Rn prog Q blk Inv o a w 1:=by
 obtain ⟨A,n,c,hn⟩:=hx;generalize hr:a.eval=r at hn;refine eo_ (v:=i_ n) ?_ ⟨_,rfl⟩ hI;rw [hr];rcases hT with rfl | rfl <;> simp [execOp,ho,hn,go_sem]
theorem rn_name {x:Operand} (ho:o.op=.call { callee:=.value (.func 186),args:=#[x],argTypes:=#[9] }) (hx:KOk blk 2 (a.eval x)) (hI:∀ w',Below w w w'->Inv w'):Rn prog Q blk Inv o a w 0:=fun K hK=>by
 obtain ⟨s,hs,hsz⟩:=hx;have A0:(execOp a.eval o).run prog w=.ok (.enter 186 #[.string s]) w:=by
  have hf:a.eval (.func 186)=.func (.func 186) #[] #[]:=rfl;generalize hr:a.eval=r at hs hf;simp [execOp,ho,hs,hf,go_sem]
 unfold Oper.wp;rw [A0];show Calls _ _ _ _ _
 refine (Name05_any s w hsz).mono ?_;rintro e w' ⟨⟨b,rfl⟩,hb⟩;exact hK _ _ ⟨b,rfl⟩ (hI w' hb)
end
structure StB (w:World) (b:Nat) (kd:Int) (s f:ByteArray) (n op:Int) (A B C:OA) (m c m1 c1 m2 c2:Nat):Prop where
 y0:w.cell? (a_ b)=some (i_ kd)
 y1:w.cell? (f_ b 1)=some (.string s)
 y2:w.cell? (f_ b 2)=some (.string f)
 y3:w.cell? (f_ b 3)=some (i_ n)
 y4:w.cell? (f_ b 4)=some (i_ op)
 y5:w.cell? (f_ b 5)=some (.slice A m c)
 y6:w.cell? (f_ b 6)=some (.slice B m1 c1)
 y7:w.cell? (f_ b 7)=some (.slice C m2 c2)
theorem broken_t (X:NP) (K:Nat) (vs:VL) (w:World) (ht:VTs w X K af_ vs) (hX:∀ k,X k->k<w) :
  Calls prog 87 #[.agg vs.toArray] w fun e w'=>(∃ us,e=.returned (.agg us.toArray)/\VTs w' X K af_ us/\Hid (us[42]?=some (i_ 4)))/\Below w w w':=by
 obtain ⟨Aj,A0⟩:=ht.num (j:=42) rfl;obtain ⟨A8,A1⟩:=ht.num (j:=47) rfl;have Ah:(prog.info? 65).map (·.size)=some vs.length:=by rw [ht.1];kernel_rfl
 obtain ⟨W,hW,A5,Af,B0,B1⟩:=cn_ w vs 65 zl1 65;have HT:=q_ (ht.kept (Y:=fun k=>X k\/(w<=k/\k<w+2)) (Kp.of_below A5) (fun k hk h1 h2=>by rcases h2 with h2 | h2;exact h1 h2;omega) (Nat.le_refl K));have HW:=q_ A5;have A9:=q_ B0;have Aa:=q_ B1;have Ag:=ht.1;have c42:=B0.2.1 42 _ A0;have Ai:=B0.2.1 47 _ A1;have c0:=B0.2.2;clear ht hX B0 B1 A5 Af A0 A1;go_enter func87,ntmps87;go_upto_region 1 with fail;rw [<-hW];clear hW;go_upto_region 3 with fail;obtain ⟨ls,A3⟩:=ex_ ((vs.set 42 (i_ 4)).set 47 (i_ (wrap64 (A8+1))));obtain ⟨U,hU⟩:=ex_ ((W.setCell (f_ w 42) (i_ 4)).setCell (f_ w 47) (i_ (wrap64 (A8+1))));have Ae:=h_ (Bx U w ls) (by rw [hU,A3];exact (A9.o.set 42 _).set 47 _);have A7:=h_ (Bx U (w+1) zl1) (by rw [hU];exact (Aa.o.far z3_ _).far z3_ _);have Ac:=h_ (Kp (fun k=>X k\/(w<=k/\k<w+2)) W U) (by rw [hU];exact ((Kp.refl _ W).setCell (p:=(f_ w 42)) (.inl (.inr ⟨zy_,by show (w:Nat)<w+2;omega⟩)) _).setCell (p:=(f_ w 47)) (.inl (.inr ⟨zy_,by show (w:Nat)<w+2;omega⟩)) _);have Ab:=h_ (Below w w U) (by rw [hU];exact (HW.o.setCell zy_ _).setCell zy_ _);have Ad:=h_ (ls[42]?=some (i_ 4)) (by rw [A3,gs_,if_neg d_,gs_,if_pos rfl,if_pos (by rw [Ag];decide)]);have A4:=h_ (VTs U (fun k=>X k\/(w<=k/\k<w+2)) K af_ ls) (by rw [A3];exact ((HT.o.up Ac.o (Nat.le_refl K)).set (j:=42) rfl (.num _)).set (j:=47) rfl (.num _));rw [<-hU];have A6:(prog.info? 65).map (·.size)=some ls.length:=by rw [A3];simpa using Ah
 have A2:ls.length=48:=by rw [A4.o.1];rfl
 clear hU A3;go_wp2_with (first
  | (with_reducible refine ac_ rfl 65 (.tmp 1) rfl _ underlying65 rfl v_ Ae.o.whole A6 ?_)
  | (with_reducible refine ab_ rfl 65 (.tmp 2) (.tmp 8) rfl ls yy_ v_ (A7.o.there (by rw [A2];decide)) A6 A4.o.one ?_))
 refine retC results87 zc_ underlying65 rfl A6 (cs:=ls) (A7.o.all ls (by rw [A2];rfl)).whole rfl ?_;exact ⟨⟨ls,rfl,(A4.o.up (ai_ (w+1) ls 0 (Kp.refl _ U) (.inl (.inr ⟨o_,o_⟩))) (Nat.le_refl K)).less (fun k _ h=>.inl h),Ad⟩,(ai_ (w+1) ls 0 (show Kp (fun _=>False) w U from .of_below Ab.o) (.inr o_)).below (l_) (fun _ _ h=>h)⟩
theorem Reads21_t (X:NP) (K:Nat) (A:OA) (n c:Nat) (L:Nat) (vs:VL) (w:World) (h:SlT w X K objT A n c) (hK:K<=4398046510976) (ht:VTs w X L af_ vs) (hL:L<=4398046510976) :
  Calls prog 132 #[.agg #[.slice A n c],.agg vs.toArray] w fun e w'=>RWr e/\Below w w w':=by
 obtain ⟨W,hW,A1,A6,B0,B1,B2⟩:=et_ w [.slice A n c] 35 vs 65 [i_ 0,i_ 0,.bool false,i_ 0] 87;obtain ⟨RA,rn,rc,A3,hr⟩:=ht.slc (j:=37) (e:=aq_) rfl;have H:=q_ (h.up (Kp.of_below A1) (l_));have HR:=q_ (hr.up (Kp.of_below A1) (l_));have A5:=q_ B2;have HW:=q_ A1;have a0:=B0.2.1 0 _ rfl;have A7:=B1.2.1 37 _ A3;have A9:(w:Nat)+2<W:=by omega
 clear h ht hr B0 B1 B2 A1 A6 A3;go_enter func132,ntmps132;go_upto_region 1 with fail;rw [<-hW];clear hW;go_wp2_with fail;refine (Wrong_t X K A n c L RA rn rc W H.o hK HR.o hL).mono ?_;rintro e S ⟨⟨x,b,rfl⟩,hS⟩;obtain ⟨xi,xf,xr,xn⟩:=x;obtain ⟨T,hT,A4,A8,T0⟩:=ag_ S [i_ xi,i_ xf,.bool xr,i_ xn] 87;have A2:=h_ (Below W W T) (hS.trans (A4.mono hS.size));have t0:=T0.2.1 0 _ rfl;have t1:=T0.2.1 1 _ rfl;have t2:=T0.2.1 2 _ rfl;have t3:=T0.2.1 3 _ rfl;have A0:=q_ (A5.o.below A2.o);have r0:=A0.o.2.1 0 _ rfl;have r1:=A0.o.2.1 1 _ rfl;have r2:=A0.o.2.1 2 _ rfl;have r3:=A0.o.2.1 3 _ rfl;have rf:=A0.o.2.2;have HF:=h_ (Below w w T) (HW.o.trans (A2.o.mono HW.o.size));clear hS A4 T0 a0 A7;go_upto_region 2 with fail;rw [<-hT];clear hT;go_wp2;refine ce_ results132 zc_ underlying87 rfl k_ (cs:=[_,_,_,_]) ((((A0.o.set 0 _).set 1 _).set 2 _).set 3 _).whole rfl ?_;exact ⟨⟨⟨xi,xf,xr,xn⟩,!b,rfl⟩,(bel HF.o)⟩
theorem fits_13 (A:OA) (n c:Nat) (v s:Int) (i:Nat) (l:List In) (x:In) (g k:Nat) (w:World) (hs:Sl w w 5 In.cells A n l) (hn:n<=2048) (hx:l[i]?=some x) (hsh:Sl w w 4 shCells (some (a_ g)) 22 shTab) (hk:x.op=k) (hk22:k<22) (HKK:k=13) :
  Calls prog 121 #[.agg #[.slice A n c,i_ v,i_ s],i_ i,.slice (some (a_ g)) 22 22] w fun e w'=>RFits l i x e/\Below w w w':=by
 have HL:=q_ hs.len;have hin:i<n:=by have:=(e_ hx).1;rw [HL.o] at this;exact this
 have hinI:(i:Int)<(n:Int):=by omega
 have hwi:IntKind.i64.wrap ((i:Int)+1)=(i:Int)+1:=by rw [IntKind.wrap_i64];omega
 have hwj:IntKind.i64.wrap ((i:Int) - 1)=(i:Int) - 1:=by rw [IntKind.wrap_i64];omega
 obtain ⟨ab,ao,rfl,hlo,hat⟩:=hs.at_ o_;obtain ⟨sa,sb,sc,sn,hst⟩:∃ sa sb sc sn,shAt k=(sa,sb,sc,sn):=⟨_,_,_,_,rfl⟩;have HN:=h_ ((sn=4/\k=7)\/(sn=6/\(k=11\/k=12))\/(sn=7/\k=13)\/(sn≠4/\sn≠6/\sn≠7/\k≠7/\k≠11/\k≠12/\k≠13)) xq_;have HN5:=h_ ((k=10->sn=5)/\(sn=0\/sn=1\/sn=2\/sn=3\/sn=4\/sn=5\/sn=6\/sn=7\/sn=8\/sn=9)) xr_;obtain ⟨W,hW,hWb,hWz,B0⟩:=ag_ w [.slice (some (f_ ab ao)) n c,i_ v,i_ s] 26;have HS:=q_ (hs.up hWb);have HSH:=q_ (hsh.up hWb);have KV:=q_ (show ∀ (V w':World) (nq:Nat),V=((W.alloc (.cells #[i_ k,i_ x.a,i_ x.b,i_ x.c,i_ x.n] 202)).alloc (.cells #[.bool sa,.bool sb,.bool sc,i_ sn] 268)).drewN nq->Below V V w' →
   (w'.cell? (a_ w)=some (.slice (some (f_ ab ao)) n c)/\w'.cell? (f_ w 1)=some (i_ v)/\w'.cell? (f_ w 2)=some (i_ s)) ∧
   (w'.cell? (a_ W)=some (i_ k)/\w'.cell? (f_ W 1)=some (i_ x.a)/\w'.cell? (f_ W 2)=some (i_ x.b)/\w'.cell? (f_ W 3)=some (i_ x.c)/\w'.cell? (f_ W 4)=some (i_ x.n)) ∧
   (w'.cell? (a_ (W+1))=some (.bool sa)/\w'.cell? (f_ (W+1) 1)=some (.bool sb)/\w'.cell? (f_ (W+1) 2)=some (.bool sc)/\w'.cell? (f_ (W+1) 3)=some (i_ sn))/\Below w w w'/\Sl w' w' 5 In.cells (some (f_ ab ao)) n l from fun V w' nq hV hb=>by
  obtain ⟨U,hU,hUb,hUz,U0,U1⟩:=cn_ W [i_ k,i_ x.a,i_ x.b,i_ x.c,i_ x.n] 202 [.bool sa,.bool sb,.bool sc,i_ sn] 268
  rw [<-hU] at hV
  have hbU:Below U U w':=by
   have h1:Below U U V:=by rw [hV];exact below_drewN (b_) _
   exact h1.trans (hb.mono h1.size)
  have hbW:Below W W w':=hUb.trans (hbU.mono hUb.size)
  have b0:=B0.below hbW
  have b1:=U0.below hbU
  have b2:=U1.below hbU
  exact ⟨⟨b0.2.1 0 _ rfl,b0.2.1 1 _ rfl,b0.2.1 2 _ rfl⟩,⟨b1.2.1 0 _ rfl,b1.2.1 1 _ rfl,b1.2.1 2 _ rfl,b1.2.1 3 _ rfl,b1.2.1 4 _ rfl⟩,⟨b2.2.1 0 _ rfl,b2.2.1 1 _ rfl,b2.2.1 2 _ rfl,b2.2.1 3 _ rfl⟩,hWb.trans (hbW.mono hWb.size),HS.o.up hbW⟩)
 have x0:W.cell? ⟨ab,ao+i*5,none⟩=some (i_ k):=(belc hWb hlo).trans wd_;have x1:W.cell? ⟨ab,ao+i*5+1,none⟩=some (i_ x.a):=(belc hWb hlo).trans (hat i x hx 1 _ rfl);have x2:W.cell? ⟨ab,ao+i*5+2,none⟩=some (i_ x.b):=(belc hWb hlo).trans (hat i x hx 2 _ rfl);have x3:W.cell? ⟨ab,ao+i*5+3,none⟩=some (i_ x.c):=(belc hWb hlo).trans (hat i x hx 3 _ rfl);have x4:W.cell? ⟨ab,ao+i*5+4,none⟩=some (i_ x.n):=(belc hWb hlo).trans (hat i x hx 4 _ rfl);have d0:=B0.2.1 0 _ rfl;have s0:W.cell? ⟨g,k*4,none⟩=some (.bool sa):=by have:=sl_at HSH.o (sh_at hk22) (j:=0) rfl;rw [hst] at this;simpa using this
 have s1:W.cell? ⟨g,k*4+1,none⟩=some (.bool sb):=by have:=sl_at HSH.o (sh_at hk22) (j:=1) rfl;rw [hst] at this;simpa using this
 have s2:W.cell? ⟨g,k*4+2,none⟩=some (.bool sc):=by have:=sl_at HSH.o (sh_at hk22) (j:=2) rfl;rw [hst] at this;simpa using this
 have s3:W.cell? ⟨g,k*4+3,none⟩=some (i_ sn):=by have:=sl_at HSH.o (sh_at hk22) (j:=3) rfl;rw [hst] at this;simpa using this
 have hgW:g<W:=HSH.o.lt o_;have hlW:(w:Nat)<W:=by omega
 have haW:ab<W:=by omega
 have o1:¬((k:Int)<0):=by omega
 have o2:¬((21:Int)<(k:Int)):=by omega
 have o3:(k:Int)<22:=by omega
 have HO:=q_ hk;have HK22:=q_ hk22;clear hs hsh hat hx B0 hWb hWz hst hk HSH HS HL;go_enter func121,ntmps121;go_upto_region 1 with fail;rw [<-hW];clear hW;have e13:((k:Int) == 13)=true:=by simp [HKK]
 have e10:((k:Int) == 10)=false:=by simp [HKK]
 have HK:=q_ HKK;clear HKK;by_cases g1:x.b<0
 ·skip
  exact vu_
 by_cases g2:4<x.b
 ·skip
  exact vu_
 by_cases g3:x.c<x.b
 ·skip
  exact vu_
 by_cases g4:64<x.c
 ·skip
  exact vu_
 have HP:=h_ (0<=x.b/\x.b<=4/\x.b<=x.c/\x.c<=64) o_;go_upto_region 5 with fail;go_quiet (fail);obtain ⟨V,hV⟩:=ex_ (((W.alloc (.cells #[i_ k,i_ x.a,i_ x.b,i_ x.c,i_ x.n] 202)).alloc (.cells #[.bool sa,.bool sb,.bool sc,i_ sn] 268)).drewN nq);have HV:=q_ (Below.refl V V);have HQ:=q_ (fun w'=>KV.o V w' nq hV);clear x0 x1 x2 x3 x4 s0 s1 s2 s3 d0;obtain ⟨⟨c0,c1,c2⟩,⟨x0,x1,x2,x3,x4⟩,⟨s0,s1,s2,s3⟩,hbw2,hsl2⟩:=KV.o V V nq hV (b_);rw [<-hV];have hsl:=q_ hsl2;have hbw:=q_ hbw2;clear hV hbw2 hsl2 KV;obtain rfl:sn=7:=by have:=HN.o;have:=HK.o;omega
 go_wp2_with (first | (go_at_call 168;first | (refine (bc_ x.a _ _).mono ?_;rintro e Y ⟨⟨rA,rfl,hA⟩,hY⟩;have HV2:=q_ (HV.o.trans (hY.mono HV.o.size));clear HV hY c0 c1 c2 x0 x1 x2 x3 x4 s0 s1 s2 s3 hbw hsl;have HV:=HV2;clear HV2;obtain ⟨⟨c0,c1,c2⟩,⟨x0,x1,x2,x3,x4⟩,⟨s0,s1,s2,s3⟩,hbw2,hsl2⟩:=HQ.o Y HV.o;have hbw:=q_ hbw2;have hsl:=q_ hsl2;clear hbw2 hsl2) | (refine (bc_ x.b _ _).mono ?_;rintro e Y ⟨⟨rB,rfl,hB⟩,hY⟩;have HV2:=q_ (HV.o.trans (hY.mono HV.o.size));clear HV hY c0 c1 c2 x0 x1 x2 x3 x4 s0 s1 s2 s3 hbw hsl;have HV:=HV2;clear HV2;obtain ⟨⟨c0,c1,c2⟩,⟨x0,x1,x2,x3,x4⟩,⟨s0,s1,s2,s3⟩,hbw2,hsl2⟩:=HQ.o Y HV.o;have hbw:=q_ hbw2;have hsl:=q_ hsl2;clear hbw2 hsl2) | (refine (bc_ x.c _ _).mono ?_;rintro e Y ⟨⟨rC,rfl,hC⟩,hY⟩;have HV2:=q_ (HV.o.trans (hY.mono HV.o.size));clear HV hY c0 c1 c2 x0 x1 x2 x3 x4 s0 s1 s2 s3 hbw hsl;have HV:=HV2;clear HV2;obtain ⟨⟨c0,c1,c2⟩,⟨x0,x1,x2,x3,x4⟩,⟨s0,s1,s2,s3⟩,hbw2,hsl2⟩:=HQ.o Y HV.o;have hbw:=q_ hbw2;have hsl:=q_ hsl2;clear hbw2 hsl2)) | (go_at_call 128;refine (op_any (some (f_ ab ao)) n c v s _ l _ hsl.o o_).mono ?_;rintro e Y ⟨⟨q,rfl,hq⟩,hY⟩;have HV2:=q_ (HV.o.trans (hY.mono HV.o.size));clear HV hY c0 c1 c2 x0 x1 x2 x3 x4 s0 s1 s2 s3 hbw hsl;have HV:=HV2;clear HV2;obtain ⟨⟨c0,c1,c2⟩,⟨x0,x1,x2,x3,x4⟩,⟨s0,s1,s2,s3⟩,hbw2,hsl2⟩:=HQ.o Y HV.o;have hbw:=q_ hbw2;have hsl:=q_ hsl2;clear hbw2 hsl2) | (go_at_call 169;refine (ey_ _ _).mono ?_;rintro e Y ⟨⟨ba,rfl⟩,hY⟩;have HV2:=q_ (HV.o.trans (hY.mono HV.o.size));clear HV hY c0 c1 c2 x0 x1 x2 x3 x4 s0 s1 s2 s3 hbw hsl;have HV:=HV2;clear HV2;obtain ⟨⟨c0,c1,c2⟩,⟨x0,x1,x2,x3,x4⟩,⟨s0,s1,s2,s3⟩,hbw2,hsl2⟩:=HQ.o Y HV.o;have hbw:=q_ hbw2;have hsl:=q_ hsl2;clear hbw2 hsl2) | (go_at_call 170;refine (Name_any _ _).mono ?_;rintro e Y ⟨⟨ns,nb,rfl⟩,hY⟩;have HV2:=q_ (HV.o.trans (hY.mono HV.o.size));clear HV hY c0 c1 c2 x0 x1 x2 x3 x4 s0 s1 s2 s3 hbw hsl;have HV:=HV2;clear HV2;obtain ⟨⟨c0,c1,c2⟩,⟨x0,x1,x2,x3,x4⟩,⟨s0,s1,s2,s3⟩,hbw2,hsl2⟩:=HQ.o Y HV.o;have hbw:=q_ hbw2;have hsl:=q_ hsl2;clear hbw2 hsl2));all_goals first | (go_ret;exact ⟨rfits_no l i x,hbw.o⟩) | (go_ret;exact ⟨⟨_,rfl,fun hh=>mkOk HO.o HK22.o (hA.o zi_) (fun h=>absurd HK.o h) (fun h=>absurd HK.o h) (fun _=>HP.o) (fun _=>hq.o.trans (by simpa using hh)) (fun h=>by have:=HK.o;omega) (fun h=>by have:=HK.o;omega)⟩,hbw.o⟩)
theorem fits_10 (A:OA) (n c:Nat) (v s:Int) (i:Nat) (l:List In) (x:In) (g k:Nat) (w:World) (hs:Sl w w 5 In.cells A n l) (hn:n<=2048) (hx:l[i]?=some x) (hsh:Sl w w 4 shCells (some (a_ g)) 22 shTab) (hk:x.op=k) (hk22:k<22) (HKK:k=10) :
  Calls prog 121 #[.agg #[.slice A n c,i_ v,i_ s],i_ i,.slice (some (a_ g)) 22 22] w fun e w'=>RFits l i x e/\Below w w w':=by
 have HL:=q_ hs.len;have hin:i<n:=by have:=(e_ hx).1;rw [HL.o] at this;exact this
 have hinI:(i:Int)<(n:Int):=by omega
 have hwi:IntKind.i64.wrap ((i:Int)+1)=(i:Int)+1:=by rw [IntKind.wrap_i64];omega
 have hwj:IntKind.i64.wrap ((i:Int) - 1)=(i:Int) - 1:=by rw [IntKind.wrap_i64];omega
 obtain ⟨ab,ao,rfl,hlo,hat⟩:=hs.at_ o_;obtain ⟨sa,sb,sc,sn,hst⟩:∃ sa sb sc sn,shAt k=(sa,sb,sc,sn):=⟨_,_,_,_,rfl⟩;have HN:=h_ ((sn=4/\k=7)\/(sn=6/\(k=11\/k=12))\/(sn=7/\k=13)\/(sn≠4/\sn≠6/\sn≠7/\k≠7/\k≠11/\k≠12/\k≠13)) xq_;have HN5:=h_ ((k=10->sn=5)/\(sn=0\/sn=1\/sn=2\/sn=3\/sn=4\/sn=5\/sn=6\/sn=7\/sn=8\/sn=9)) xr_;obtain ⟨W,hW,hWb,hWz,B0⟩:=ag_ w [.slice (some (f_ ab ao)) n c,i_ v,i_ s] 26;have HS:=q_ (hs.up hWb);have HSH:=q_ (hsh.up hWb);have KV:=q_ (show ∀ (V w':World) (nq:Nat),V=((W.alloc (.cells #[i_ k,i_ x.a,i_ x.b,i_ x.c,i_ x.n] 202)).alloc (.cells #[.bool sa,.bool sb,.bool sc,i_ sn] 268)).drewN nq->Below V V w' →
   (w'.cell? (a_ w)=some (.slice (some (f_ ab ao)) n c)/\w'.cell? (f_ w 1)=some (i_ v)/\w'.cell? (f_ w 2)=some (i_ s)) ∧
   (w'.cell? (a_ W)=some (i_ k)/\w'.cell? (f_ W 1)=some (i_ x.a)/\w'.cell? (f_ W 2)=some (i_ x.b)/\w'.cell? (f_ W 3)=some (i_ x.c)/\w'.cell? (f_ W 4)=some (i_ x.n)) ∧
   (w'.cell? (a_ (W+1))=some (.bool sa)/\w'.cell? (f_ (W+1) 1)=some (.bool sb)/\w'.cell? (f_ (W+1) 2)=some (.bool sc)/\w'.cell? (f_ (W+1) 3)=some (i_ sn))/\Below w w w'/\Sl w' w' 5 In.cells (some (f_ ab ao)) n l from fun V w' nq hV hb=>by
  obtain ⟨U,hU,hUb,hUz,U0,U1⟩:=cn_ W [i_ k,i_ x.a,i_ x.b,i_ x.c,i_ x.n] 202 [.bool sa,.bool sb,.bool sc,i_ sn] 268
  rw [<-hU] at hV
  have hbU:Below U U w':=by
   have h1:Below U U V:=by rw [hV];exact below_drewN (b_) _
   exact h1.trans (hb.mono h1.size)
  have hbW:Below W W w':=hUb.trans (hbU.mono hUb.size)
  have b0:=B0.below hbW
  have b1:=U0.below hbU
  have b2:=U1.below hbU
  exact ⟨⟨b0.2.1 0 _ rfl,b0.2.1 1 _ rfl,b0.2.1 2 _ rfl⟩,⟨b1.2.1 0 _ rfl,b1.2.1 1 _ rfl,b1.2.1 2 _ rfl,b1.2.1 3 _ rfl,b1.2.1 4 _ rfl⟩,⟨b2.2.1 0 _ rfl,b2.2.1 1 _ rfl,b2.2.1 2 _ rfl,b2.2.1 3 _ rfl⟩,hWb.trans (hbW.mono hWb.size),HS.o.up hbW⟩)
 have x0:W.cell? ⟨ab,ao+i*5,none⟩=some (i_ k):=(belc hWb hlo).trans wd_;have x1:W.cell? ⟨ab,ao+i*5+1,none⟩=some (i_ x.a):=(belc hWb hlo).trans (hat i x hx 1 _ rfl);have x2:W.cell? ⟨ab,ao+i*5+2,none⟩=some (i_ x.b):=(belc hWb hlo).trans (hat i x hx 2 _ rfl);have x3:W.cell? ⟨ab,ao+i*5+3,none⟩=some (i_ x.c):=(belc hWb hlo).trans (hat i x hx 3 _ rfl);have x4:W.cell? ⟨ab,ao+i*5+4,none⟩=some (i_ x.n):=(belc hWb hlo).trans (hat i x hx 4 _ rfl);have d0:=B0.2.1 0 _ rfl;have s0:W.cell? ⟨g,k*4,none⟩=some (.bool sa):=by have:=sl_at HSH.o (sh_at hk22) (j:=0) rfl;rw [hst] at this;simpa using this
 have s1:W.cell? ⟨g,k*4+1,none⟩=some (.bool sb):=by have:=sl_at HSH.o (sh_at hk22) (j:=1) rfl;rw [hst] at this;simpa using this
 have s2:W.cell? ⟨g,k*4+2,none⟩=some (.bool sc):=by have:=sl_at HSH.o (sh_at hk22) (j:=2) rfl;rw [hst] at this;simpa using this
 have s3:W.cell? ⟨g,k*4+3,none⟩=some (i_ sn):=by have:=sl_at HSH.o (sh_at hk22) (j:=3) rfl;rw [hst] at this;simpa using this
 have hgW:g<W:=HSH.o.lt o_;have hlW:(w:Nat)<W:=by omega
 have haW:ab<W:=by omega
 have o1:¬((k:Int)<0):=by omega
 have o2:¬((21:Int)<(k:Int)):=by omega
 have o3:(k:Int)<22:=by omega
 have HO:=q_ hk;have HK22:=q_ hk22;clear hs hsh hat hx B0 hWb hWz hst hk HSH HS HL;go_enter func121,ntmps121;go_upto_region 1 with fail;rw [<-hW];clear hW;have e13:((k:Int) == 13)=false:=by simp [HKK]
 have e10:((k:Int) == 10)=true:=by simp [HKK]
 have HK:=q_ HKK;clear HKK;obtain rfl:sn=5:=HN5.o.1 HK.o;go_upto_region 5 with fail;go_quiet (fail);obtain ⟨V,hV⟩:=ex_ (((W.alloc (.cells #[i_ k,i_ x.a,i_ x.b,i_ x.c,i_ x.n] 202)).alloc (.cells #[.bool sa,.bool sb,.bool sc,i_ 5] 268)).drewN nq);have HV:=q_ (Below.refl V V);have HQ:=q_ (fun w'=>KV.o V w' nq hV);clear x0 x1 x2 x3 x4 s0 s1 s2 s3 d0;obtain ⟨⟨c0,c1,c2⟩,⟨x0,x1,x2,x3,x4⟩,⟨s0,s1,s2,s3⟩,hbw2,hsl2⟩:=KV.o V V nq hV (b_);rw [<-hV];have hsl:=q_ hsl2;have hbw:=q_ hbw2;clear hV hbw2 hsl2 KV;go_wp2_with fail;refine (bc_ x.a _ _).mono ?_;rintro e Y ⟨⟨rA,rfl,hA⟩,hY⟩;have HV2:=q_ (HV.o.trans (hY.mono HV.o.size));clear HV hY c0 c1 c2 x0 x1 x2 x3 x4 s0 s1 s2 s3 hbw hsl;have HV:=HV2;clear HV2;obtain ⟨⟨c0,c1,c2⟩,⟨x0,x1,x2,x3,x4⟩,⟨s0,s1,s2,s3⟩,hbw2,hsl2⟩:=HQ.o Y HV.o;have hbw:=q_ hbw2;have hsl:=q_ hsl2;clear hbw2 hsl2;cases rA
 ·exact cfL
 go_wp2_with fail;refine (bc_ x.c _ _).mono ?_;rintro e Y ⟨⟨rC,rfl,hC⟩,hY⟩;have HV2:=q_ (HV.o.trans (hY.mono HV.o.size));clear HV hY c0 c1 c2 x0 x1 x2 x3 x4 s0 s1 s2 s3 hbw hsl;have HV:=HV2;clear HV2;obtain ⟨⟨c0,c1,c2⟩,⟨x0,x1,x2,x3,x4⟩,⟨s0,s1,s2,s3⟩,hbw2,hsl2⟩:=HQ.o Y HV.o;have hbw:=q_ hbw2;have hsl:=q_ hsl2;clear hbw2 hsl2;cases rC
 ·exact cfL
 go_wp2_with fail;refine (ey_ _ _).mono ?_;rintro e Y ⟨⟨ba,rfl⟩,hY⟩;have HV2:=q_ (HV.o.trans (hY.mono HV.o.size));clear HV hY c0 c1 c2 x0 x1 x2 x3 x4 s0 s1 s2 s3 hbw hsl;have HV:=HV2;clear HV2;obtain ⟨⟨c0,c1,c2⟩,⟨x0,x1,x2,x3,x4⟩,⟨s0,s1,s2,s3⟩,hbw2,hsl2⟩:=HQ.o Y HV.o;have hbw:=q_ hbw2;have hsl:=q_ hsl2;clear hbw2 hsl2;cases ba
 ·exact cfL
 go_wp2_with (first | (go_at_call 168;first | (refine (bc_ x.a _ _).mono ?_;rintro e Y ⟨⟨rA,rfl,hA⟩,hY⟩;have HV2:=q_ (HV.o.trans (hY.mono HV.o.size));clear HV hY c0 c1 c2 x0 x1 x2 x3 x4 s0 s1 s2 s3 hbw hsl;have HV:=HV2;clear HV2;obtain ⟨⟨c0,c1,c2⟩,⟨x0,x1,x2,x3,x4⟩,⟨s0,s1,s2,s3⟩,hbw2,hsl2⟩:=HQ.o Y HV.o;have hbw:=q_ hbw2;have hsl:=q_ hsl2;clear hbw2 hsl2) | (refine (bc_ x.b _ _).mono ?_;rintro e Y ⟨⟨rB,rfl,hB⟩,hY⟩;have HV2:=q_ (HV.o.trans (hY.mono HV.o.size));clear HV hY c0 c1 c2 x0 x1 x2 x3 x4 s0 s1 s2 s3 hbw hsl;have HV:=HV2;clear HV2;obtain ⟨⟨c0,c1,c2⟩,⟨x0,x1,x2,x3,x4⟩,⟨s0,s1,s2,s3⟩,hbw2,hsl2⟩:=HQ.o Y HV.o;have hbw:=q_ hbw2;have hsl:=q_ hsl2;clear hbw2 hsl2) | (refine (bc_ x.c _ _).mono ?_;rintro e Y ⟨⟨rC,rfl,hC⟩,hY⟩;have HV2:=q_ (HV.o.trans (hY.mono HV.o.size));clear HV hY c0 c1 c2 x0 x1 x2 x3 x4 s0 s1 s2 s3 hbw hsl;have HV:=HV2;clear HV2;obtain ⟨⟨c0,c1,c2⟩,⟨x0,x1,x2,x3,x4⟩,⟨s0,s1,s2,s3⟩,hbw2,hsl2⟩:=HQ.o Y HV.o;have hbw:=q_ hbw2;have hsl:=q_ hsl2;clear hbw2 hsl2)) | (go_at_call 128;refine (op_any (some (f_ ab ao)) n c v s _ l _ hsl.o o_).mono ?_;rintro e Y ⟨⟨q,rfl,hq⟩,hY⟩;have HV2:=q_ (HV.o.trans (hY.mono HV.o.size));clear HV hY c0 c1 c2 x0 x1 x2 x3 x4 s0 s1 s2 s3 hbw hsl;have HV:=HV2;clear HV2;obtain ⟨⟨c0,c1,c2⟩,⟨x0,x1,x2,x3,x4⟩,⟨s0,s1,s2,s3⟩,hbw2,hsl2⟩:=HQ.o Y HV.o;have hbw:=q_ hbw2;have hsl:=q_ hsl2;clear hbw2 hsl2) | (go_at_call 169;refine (ey_ _ _).mono ?_;rintro e Y ⟨⟨ba,rfl⟩,hY⟩;have HV2:=q_ (HV.o.trans (hY.mono HV.o.size));clear HV hY c0 c1 c2 x0 x1 x2 x3 x4 s0 s1 s2 s3 hbw hsl;have HV:=HV2;clear HV2;obtain ⟨⟨c0,c1,c2⟩,⟨x0,x1,x2,x3,x4⟩,⟨s0,s1,s2,s3⟩,hbw2,hsl2⟩:=HQ.o Y HV.o;have hbw:=q_ hbw2;have hsl:=q_ hsl2;clear hbw2 hsl2) | (go_at_call 170;refine (Name_any _ _).mono ?_;rintro e Y ⟨⟨ns,nb,rfl⟩,hY⟩;have HV2:=q_ (HV.o.trans (hY.mono HV.o.size));clear HV hY c0 c1 c2 x0 x1 x2 x3 x4 s0 s1 s2 s3 hbw hsl;have HV:=HV2;clear HV2;obtain ⟨⟨c0,c1,c2⟩,⟨x0,x1,x2,x3,x4⟩,⟨s0,s1,s2,s3⟩,hbw2,hsl2⟩:=HQ.o Y HV.o;have hbw:=q_ hbw2;have hsl:=q_ hsl2;clear hbw2 hsl2));all_goals first | (go_ret;exact ⟨rfits_no l i x,hbw.o⟩) | (go_ret;exact ⟨⟨_,rfl,fun hh=>mkOk HO.o HK22.o (hA.o zi_) (fun _ h=>absurd HK.o h) (fun _=>hC.o zi_) (fun h=>by have:=HK.o;omega) (fun h=>by have:=HK.o;omega) (fun h=>by have:=HK.o;omega) (fun h=>by have:=HK.o;omega)⟩,hbw.o⟩)
def folT:List CT:=[.num,.num,.num]
theorem infoFo:(prog.info? 157).map (fun i=>(i.zero,i.size,i.bytes))=some (some (.agg #[i_ 0,i_ 0,i_ 0]),3,24):=by kernel_rfl
theorem vts_fol {X:NP} {w:World} {K:Nat} (a b c:Int):VTs w X K folT [i_ a,i_ b,i_ c]:=VTs.cons (.num _) (VTs.cons (.num _) (VTs.cons (.num _) VTs.nil))
theorem SlT.fol_at {X:NP} {w:World} {K n c k:Nat} {A:OA} (h:SlT w X K folT A n c) (hk:k<n):∃ g o,A=some (f_ g o)/\g<w/\∃ a b d:Int,∀ w',Below w w w' →
  (w'.cell? ⟨g,o+k*3,none⟩=some (i_ a)/\w'.cell? ⟨g,o+k*3+1,none⟩=some (i_ b)/\w'.cell? ⟨g,o+k*3+2,none⟩=some (i_ d)):=by
 obtain ⟨g,o,hA,hg,vs,hv,hm⟩:=h.at0 hk;obtain ⟨a,r1,rfl,ha,h1⟩:=hv.head;obtain ⟨b,r2,rfl,hb,h2⟩:=h1.head;obtain ⟨d,r3,rfl,hd,h3⟩:=h2.head;obtain ⟨a,rfl⟩:=ha.int;obtain ⟨b,rfl⟩:=hb.int;obtain ⟨d,rfl⟩:=hd.int;exact ⟨g,o,hA,hg,a,b,d,fun w' hw=>⟨hm w' hw 0 _ rfl,hm w' hw 1 _ rfl,hm w' hw 2 _ rfl⟩⟩
def RAt (n:Nat) (e:Ending):Prop:=∃ (i:Nat) (b:Bool),e=.returned (.tuple #[i_ i,.bool b])/\i<=n/\Hid (b=true->i<n)
theorem at20_t (X:NP) (K:Nat) (A:OA) (n c:Nat) (m:Int) (w:World) (h:SlT w X K folT A n c) (hK:K<=900000000) :
  Calls prog 81 #[.agg #[.slice A n c],i_ m] w fun e w'=>RAt n e/\Below w w w':=by
 have A7:=h.le;obtain ⟨W,hW,A1,A6,B0⟩:=ag_ w [.slice A n c] 99;have H:=q_ (h.up (Kp.of_below A1) (l_));have A3:=q_ B0;have HW:=q_ A1;have x0:=B0.2.1 0 _ rfl;have A8:(w:Nat)<W:=by omega
 clear h B0 A1;go_enter func81,ntmps81;go_upto_region 1 with fail;rw [<-hW];clear hW;go_upto_region 2 with fail;clear x0;go_loopw [11] (fun i wr=>∃ k:Nat,k<=n/\i=i_ k/\Below W W wr) (fun i _=>n - (intOf i).toNat)
 case atStart=>exact ⟨0,Nat.zero_le _,rfl,b_⟩
 obtain ⟨k,hk,rfl,hb⟩:=hrel;have q0:=(A3.o.below hb).2.1 0 _ rfl;have A2:Below w w wr:=HW.o.trans (hb.mono HW.o.size);have A0:=q_ A2;have HB:=q_ hb;have A5:=hb.size;by_cases hlt:k<n
 ·have A4:(k:Int)<(n:Int):=by omega
  obtain ⟨g,o,rfl,hg,a,b,d,hx⟩:=H.o.fol_at hlt;obtain ⟨c0,c1,c2⟩:=hx wr hb;clear hx hb A2;by_cases hxm:a<m
  ·have g1:decide (m<=a)=false:=by simp;omega
   have g2:¬m<=a:=by omega
   go_wp2;go_roundw
   case rel=>exact ⟨k+1,o_,za_,HB.o.alloc A5 _⟩
   case measure=>exact me_
  have g2:m<=a:=by omega
  go_wp2;go_quiet (fail);go_wp2;go_ret2;exact ⟨⟨k,_,rfl,o_,q_ (fun _=>hlt)⟩,below_drewN (A0.o.alloc A0.o.size _) _⟩
 obtain rfl:k=n:=by omega
 clear hb A2;go_wp2;go_ret2;exact ⟨⟨k,false,rfl,l_,q_ x_⟩,A0.o⟩
def RGu (e:Ending):Prop:=∃ (i:Int) (b:Bool),e=.returned (.tuple #[i_ i,.bool b])
theorem Guess20_t (X:NP) (K:Nat) (A:OA) (n c:Nat) (m:Int) (w:World) (h:SlT w X K folT A n c) (hK:K<=900000000) :
  Calls prog 84 #[.agg #[.slice A n c],i_ m] w fun e w'=>RGu e/\Below w w w':=by
 have A5:=h.le;obtain ⟨W,hW,A0,A4,B0⟩:=ag_ w [.slice A n c] 99;have H:=q_ (h.up (Kp.of_below A0) (l_));have A2:=q_ B0;have HW:=q_ A0;have x0:=B0.2.1 0 _ rfl;have A6:(w:Nat)<W:=by omega
 clear h B0 A0;go_enter func84,ntmps84;go_upto_region 1 with fail;rw [<-hW];clear hW;go_wp2_with fail;refine (at20_t X K A n c m W H.o hK).mono ?_;rintro e w' ⟨⟨i,b,rfl,hi,hb⟩,hB⟩;have HB:=q_ hB;have q0:=(A2.o.below hB).2.1 0 _ rfl;have A1:=q_ (HW.o.trans (hB.mono HW.o.size));have Hi:=q_ hb;clear hB hb x0;cases b
 case false =>
  go_wp2;go_ret2;exact ⟨⟨_,_,rfl⟩,A1.o⟩
 have hin:i<n:=Hi.o.o rfl;have A3:(i:Int)<(n:Int):=by omega
 obtain ⟨g,o,rfl,hg,a,b,d,hx⟩:=H.o.fol_at hin;obtain ⟨c0,c1,c2⟩:=hx w' HB.o;clear hx;go_wp2;try go_quiet (fail)
 try go_wp2
 go_ret2;exact ⟨⟨_,_,rfl⟩,(bel A1.o)⟩
def RSq (X:NP) (K:Nat) (e:Ending) (w:World):Prop:=∃ (A:OA) (n c:Nat),e=.returned (.agg #[.slice A n c])/\Hid (SlT w X K folT A n c)
theorem isz1S:(prog.info? 99).map (·.size)=some 1:=by kernel_rfl
theorem train20_x (X:NP) (K:Nat) (A:OA) (n c:Nat) (key v:Int) (w:World) (ha:SlT w X K folT A n c) (hK:K<=9000000) (hX:∀ k,X k->k<w+2) (hr:X (w+1)) :
  Calls prog 43 #[.agg #[.slice A n c],i_ key,i_ v] w fun e w'=>RSq X (K+1) e w'/\Below w w w':=by
 obtain ⟨i0,A2,Ac,A5,A0⟩:=info_parts infoFo;obtain ⟨W,hW,A8,Ak,B0,B1⟩:=cn_ w [.slice A n c] 99 [.slice none 0 0] 99;have KB:=q_ (fun w' (hb:Below W W w')=>B1.below hb);have Av:=ha.le;have x0:=B0.2.1 0 _ rfl;have KA:=q_ (fun w' (hb:Below W W w')=>B0.below hb);have Ai:=q_ (ha.up (Kp.of_below A8) (Nat.le_refl K));have HA:=h_ (SlT W (Wi X (Value.slice none 0 0).ownBlock) (K+1) folT A n c) ((ha.up (Kp.of_below A8) (Nat.le_refl K)).kept (Kp.refl _ _) (fun k _ h h2=>by rcases h2 with h2 | h2;exact h h2;cases h2) o_);have HW:=q_ A8;have Ao:(w:Nat)+1<W:=by omega
 have Ad:=q_ hr;have A1:=h_ (∀ k,X k->k<W) (fun k hk=>by have:=hX k hk;omega);clear ha hX B0 B1 A8 Ak;go_enter func43,ntmps43;go_upto_region 1 with fail;rw [<-hW];clear hW;go_upto_region 2 with (at_builtin;refine ap_ rfl _ _ 97 rfl W 157 i0 _ 24 folT X (K+1) underlying97 A2 Ac A5 A0 rfl d_ none 0 0 zb_ (OwT.nil _ _ _ _ _ _) A n c v_ HA.o A1.o m_ o_ (l_) ?_;intro A4 c4 w4 o4 g4 l4;rw [Nat.zero_add] at o4 l4 ⊢;have b4:Below W W w4:=al_ g4 (l_) (fun k hk=>by cases hk);have z4:=b4.size;have O4:=q_ o4;clear o4 l4 g4);clear x0;have x0:=(KA.o w4 b4).2.1 0 _ rfl;have B4:=q_ b4;clear b4;go_wp2_with fail;refine (at20_t X K A n c key w4 (Ai.o.up (Kp.of_below B4.o) (l_)) o_).mono ?_;rintro e w5 ⟨⟨k,b,rfl,hk,hb⟩,Ag⟩;have B5:=q_ (B4.o.trans (Ag.mono z4));have z5:=B5.o.size;have O5:=q_ (O4.o.below Ag);have Hb:=q_ hb;clear Ag x0 hb;cases b
 case false =>
  have Ap:n<=c4:=(O5.o.slT A1.o (by omega:n<=K+1)).cap;have H5:=q_ (O5.o.slT A1.o (by omega:n<=K+1));have hd:Below w5 w5 w5.drew:=Below.drew (b_);have HU:=h_ (∀ a b c,SlT (w5.drew.alloc (.cells #[i_ a,i_ b,i_ c] 157)) X (K+1) folT (some (a_ w5)) 1 1) (fun a b c=>SlT.lit1 (w:=w5.drew) (e:=folT) (vts_fol a b c) _ (fun h=>by have:=A1.o _ h;have:(w5.drew:Nat)=w5:=rfl;omega) o_);have A3:=h_ (∀ o,Below w5 w5 (w5.drew.alloc o)) (fun o=>hd.alloc (l_) o);have Ax:∀ w',(Instr.slice 97 (.slice A4 n c4) none (some (i_ (k:Int))) (some (i_ (k:Int)))).run prog w'=.ok (.slice A4 k k) w':=eu_ underlying97 A2 o_;have Ay:∀ w',(Instr.slice 97 (.slice A4 n c4) (some (i_ (k:Int))) none none).run prog w'=.ok (.slice (cutA A4 c4 k 3) (n - k) (c4 - k)) w':=fun w'=>by rw [el_ underlying97 A2 o_,A5]
  clear hd;go_upto_region 4 with fail;by_cases hlt:k<n
  ·have Aa:k<=n:=by omega
   go_region_law (first
    | (refine bq_ rfl (.tmp 29) (.tmp 32) 97 rfl 157 i0 _ 24 folT X (K+1) underlying97 A2 Ac A5 A0 rfl d_ (some (a_ w5)) 1 1 v_ (HU.o _ _ _) (cutA A4 c4 k 3) (n - k) (c4 - k) zw_ ((H5.o.up (Kp.of_below (A3.o _)) (l_)).drop Aa) o_ o_ (fun q A0=>by have:=A1.o q A0;first | (simp;omega) | (simp <;> omega)) m_ o_ ?_;intro A6 c6 w6 o6 b6;have b6:Below w5 w5 w6:=(A3.o _).trans (b6.mono (A3.o _).size);have Aj:=q_ (o6.slT (K:=K+1) (fun q A0=>by have:=A1.o q A0;first | (simp;omega) | (simp <;> omega)) o_);clear o6)
    | (refine bq_ rfl (.tmp 25) (.tmp 33) 97 rfl 157 i0 _ 24 folT X (K+1) underlying97 A2 Ac A5 A0 rfl d_ A4 k k v_ ((H5.o.up (Kp.of_below b6) (l_)).take Aa k (l_) o_) A6 (1+(n - k)) c6 v_ Aj.o o_ o_ (fun q A0=>by have:=A1.o q A0;have:=b6.size;omega) m_ o_ ?_;intro A7 c7 w7 o7 b7;have b7:Below w5 w5 w7:=b6.trans (b7.mono (show (w5:Nat)<=_ from b6.size));have O7:=q_ (o7.slT (K:=K+1) (fun q A0=>by have:=A1.o q A0;have:=b6.size;omega) o_);clear o7))
   all_goals
    have HR:=q_ (KB.o w7 (B5.o.trans (b7.mono z5)));have r0:=HR.o.2.1 0 _ rfl;have rf:=HR.o.2.2 0;have rl:=HR.o.1;have Ae:Below w w w7:=(HW.o.trans (B5.o.mono HW.o.size)).trans (b7.mono xn_);go_wp2;refine retC results43 zc_ underlying99 rfl isz1S (cs:=[.slice A7 (k+(1+(n - k))) c7]) (HR.o.set 0 _).whole rfl ?_;exact tf_
  obtain rfl:k=n:=by omega
  have Aa:k<=k:=Nat.le_refl k;have hz:k - k=0:=by omega
  go_region_law (first
   | (refine step_append_zero rfl (.tmp 29) (.tmp 32) 97 rfl 157 i0 underlying97 A2 (some (a_ w5)) 1 1 (l_) v_ (cutA A4 c4 k 3) (c4 - k) zw_ ?_)
   | (refine bq_ rfl (.tmp 25) (.tmp 33) 97 rfl 157 i0 _ 24 folT X (K+1) underlying97 A2 Ac A5 A0 rfl d_ A4 k k v_ ((H5.o.up (Kp.of_below (A3.o _)) (l_)).take Aa k (l_) o_) (some (a_ w5)) 1 1 v_ (HU.o _ _ _) o_ o_ (fun q A0=>by have:=A1.o q A0;first | (simp;omega) | (simp <;> omega)) m_ o_ ?_;intro A7 c7 w7 o7 b7;have b7:Below w5 w5 w7:=(A3.o _).trans (b7.mono (show (w5:Nat)<=_ from (A3.o _).size));have O7:=q_ (o7.slT (K:=K+1) (fun q A0=>by have:=A1.o q A0;have:=b7.size;simp <;> omega) o_);clear o7))
  all_goals
   have HR:=q_ (KB.o w7 (B5.o.trans (b7.mono z5)));have r0:=HR.o.2.1 0 _ rfl;have rf:=HR.o.2.2 0;have rl:=HR.o.1;have Ae:Below w w w7:=(HW.o.trans (B5.o.mono HW.o.size)).trans (b7.mono xn_);go_wp2;refine retC results43 zc_ underlying99 rfl isz1S (cs:=[.slice A7 (k+1) c7]) (HR.o.set 0 _).whole rfl ?_;exact tf_
 have Ab:k<n:=Hb.o.o rfl;have Au:(k:Int)<(n:Int):=by omega
 have Am:¬(k:Int)<0:=by omega
 obtain ⟨g,rfl,Aq,Ar,A9⟩:=O5.o.addr o_;obtain ⟨g',o',Af,_,a,b,d,hx⟩:=(O5.o.slT A1.o (by omega:n<=K+1)).fol_at Ab;injection Af with Af;injection Af with h1 h2;subst h1 h2;obtain ⟨c0,c1,c2⟩:=hx w5 (b_);rw [Nat.zero_add] at c0 c1 c2;have f0:=A9 (k*3);have f1:=A9 (k*3+1);have f2:=A9 (k*3+2);have Ah:w+1≠g:=by omega
 have HR:=q_ (KB.o w5 B5.o);have r0:=HR.o.2.1 0 _ rfl;have rf:=HR.o.2.2 0;have Al:=h_ (Below w w w5) (HW.o.trans (B5.o.mono HW.o.size));have As:¬g=w5:=by omega
 have Aw:(w:Nat)+1<w5:=by omega
 have An:=h_ (∀ q,X q->q<W) A1.o;have HT:=h_ (∀ (x y z:Int) (o:Obj),Bx (((((w5.setCell ⟨g,k*3,none⟩ (i_ x)).setCell ⟨g,k*3+1,none⟩ (i_ y)).setCell ⟨g,k*3+2,none⟩ (i_ z)).setCell (a_ (w+1)) (.slice (some (a_ g)) n c4)).alloc o) (w+1) [.slice (some (a_ g)) n c4]/\SlT (((((w5.setCell ⟨g,k*3,none⟩ (i_ x)).setCell ⟨g,k*3+1,none⟩ (i_ y)).setCell ⟨g,k*3+2,none⟩ (i_ z)).setCell (a_ (w+1)) (.slice (some (a_ g)) n c4)).alloc o) X (K+1) folT (some (a_ g)) n c4/\Below w w (((((w5.setCell ⟨g,k*3,none⟩ (i_ x)).setCell ⟨g,k*3+1,none⟩ (i_ y)).setCell ⟨g,k*3+2,none⟩ (i_ z)).setCell (a_ (w+1)) (.slice (some (a_ g)) n c4)).alloc o)) (fun x y z o=>by
  have s0:=O5.o.set (k:=k) (j:=0) Ab rfl (.num x) ⟨g,k*3,none⟩ rfl
  have s1:=s0.set (k:=k) (j:=1) Ab rfl (.num y) ⟨g,k*3+1,none⟩ rfl
  have s2:=s1.set (k:=k) (j:=2) Ab rfl (.num z) ⟨g,k*3+2,none⟩ rfl
  have s3:=s2.slT A1.o (by omega:n<=K+1)
  have bx:=(((HR.o.far (p:=⟨g,k*3,none⟩) (Ne.symm Ah) (i_ x)).far (p:=⟨g,k*3+1,none⟩) (Ne.symm Ah) (i_ y)).far (p:=⟨g,k*3+2,none⟩) (Ne.symm Ah) (i_ z)).set 0 (.slice (some (a_ g)) n c4)
  have hB:=(((Al.o.setCell (p:=⟨g,k*3,none⟩) yb_ (i_ x)).setCell (p:=⟨g,k*3+1,none⟩) yb_ (i_ y)).setCell (p:=⟨g,k*3+2,none⟩) yb_ (i_ z)).setCell (p:=(a_ (w+1))) vk_ (.slice (some (a_ g)) n c4)
  refine ⟨bx.kp (X:=fun _=>False) (.of_below ((b_).alloc (l_) o)) (fun h=>h),(s3.up ((Kp.refl X _).setCell (p:=(a_ (w+1))) (.inl Ad.o) _) (l_)).up (.of_below ((b_).alloc (l_) o)) (l_),hB.alloc hB.size o⟩)
 clear hx A9;go_wp2;all_goals
  refine retC results43 zc_ underlying99 rfl isz1S (cs:=[.slice (some (a_ g)) n c4]) (HT.o _ _ _ _).1.whole rfl ?_;exact ⟨⟨_,_,_,rfl,q_ (HT.o _ _ _ _).2.1⟩,(HT.o _ _ _ _).2.2⟩
theorem Train20_t (X:NP) (K:Nat) (A:OA) (n c:Nat) (key v:Int) (w:World) (ha:SlT w X K folT A n c) (hK:K<=9000000) (hX:∀ k,X k->k<w) :
  Calls prog 43 #[.agg #[.slice A n c],i_ key,i_ v] w fun e w'=>RSq X (K+1) e w'/\Below w w w':=by
 refine (train20_x (fun k=>X k\/k=w+1) K A n c key v w (ha.kept (Kp.refl _ _) (fun k hk h h2=>by rcases h2 with h2 | h2;exact h h2;omega) (l_)) hK (fun k hk=>by rcases hk with hk | hk;(have:=hX k hk;omega);omega) (.inr rfl)).mono ?_;rintro e w' ⟨⟨A',n',c',rfl,h⟩,hb⟩;exact ⟨⟨A',n',c',rfl,q_ (h.o.kept (Kp.refl _ _) (fun k _ h h2=>h (.inl h2)) (l_))⟩,hb⟩
section
variable {Q:Exit->Act->World->Prop} {X:XE} {Inv:World->Prop} {o:Oper} {a:Act} {w:World} {d b lp:Nat}
theorem rk_add {x y:Operand} {T:TypeId} (hT:T=3\/T=2) (ho:o.op=.binOp .add T x y T) (hx:(kInt X).p w (a.eval x)) (hy:(kInt X).p w (a.eval y)) (hI:Inv w):RnK prog Q X Inv (kInt X) o a w:=by
 obtain ⟨m,hx⟩:=hx;obtain ⟨n,hy⟩:=hy;generalize hr:a.eval=r at hx hy;exact bs_ (v:=i_ (IntKind.i64.wrap (m+n))) wu_ ⟨_,rfl⟩ hI
theorem rk_sub {x y:Operand} {T:TypeId} (hT:T=3\/T=2) (ho:o.op=.binOp .sub T x y T) (hx:(kInt X).p w (a.eval x)) (hy:(kInt X).p w (a.eval y)) (hI:Inv w):RnK prog Q X Inv (kInt X) o a w:=by
 obtain ⟨m,hx⟩:=hx;obtain ⟨n,hy⟩:=hy;generalize hr:a.eval=r at hx hy;exact bs_ (v:=i_ (IntKind.i64.wrap (m - n))) wu_ ⟨_,rfl⟩ hI
theorem rk_inc {x:Operand} {n:Nat} (hn:n<=1000) (ho:o.op=.binOp .add 3 x (.const (i_ 1)) 3) (hx:a.eval x=i_ n) (hI:Inv w):RnK prog Q X Inv (kV X (i_ ((n+1:Nat):Int))) o a w:=by
 have hw:IntKind.i64.wrap ((n:Int)+1)=((n+1:Nat):Int):=by rw [IntKind.wrap_i64];omega
 have e0:a.eval (.const (i_ 1))=i_ 1:=rfl;generalize hr:a.eval=r at hx e0;exact bs_ (v:=i_ ((n+1:Nat):Int)) (by rw [hr];simp [execOp,ho,hx,e0,hw,go_sem]) rfl hI
theorem rk_dec {x:Operand} {n:Nat} (ho:o.op=.binOp .sub 3 x (.const (i_ 1)) 3) (hx:a.eval x=i_ ((n+1:Nat):Int)) (hn:n<=1000) (hI:Inv w):RnK prog Q X Inv (kV X (i_ (n:Int))) o a w:=by
 have hw:IntKind.i64.wrap (n:Int)=(n:Int):=by rw [IntKind.wrap_i64];omega
 have e0:a.eval (.const (i_ 1))=i_ 1:=rfl;generalize hr:a.eval=r at hx e0;exact bs_ (v:=i_ (n:Int)) (by rw [hr];simp [execOp,ho,hx,e0,hw,go_sem]) rfl hI
theorem rk_rem {x:Operand} {n:Nat} (ho:o.op=.binOp .rem 3 x (.const (i_ 3)) 3) (hx:a.eval x=i_ n) (hI:Inv w):RnK prog Q X Inv (kNat X 3) o a w:=by
 have hw:(n:Int).tmod 3=((n % 3:Nat):Int):=by rw [Int.tmod_eq_emod_of_nonneg o_];omega
 have e0:a.eval (.const (i_ 3))=i_ 3:=rfl;generalize hr:a.eval=r at hx e0;exact bs_ (v:=i_ ((n:Int).tmod 3)) yv_ ⟨n % 3,Nat.mod_lt _ d_,by rw [hw]⟩ hI
end
def ExprOK (k:Nat):Prop:=∀ (d b lp:Nat) (X:NP) (w:World),Mk d b lp w->(∀ q,Zm d b q->X q)->(∀ q,X q->q<w)->Calls prog 114 #[.pointer (some (a_ b)),i_ k] w fun e w'=>RE X (k+1) e w'/\Md d b lp w w'
theorem ci_ {Q:Exit->Act->World->Prop} {X:XE} {Inv:World->Prop} {o:Oper} {a:Act} {w:World} {d b lp k:Nat} {x y:Operand} (hC:IC d b lp X Inv) (hE:ExprOK k) (ho:o.op=.call { callee:=.value (.func 114),args:=#[x,y],argTypes:=#[203,3] }) (hx:a.eval x=.pointer (some (a_ b))) (hy:a.eval y=i_ k) (hI:Inv w):RnK prog Q X Inv (kEx X (k+1)) o a w:=by
 have hf:a.eval (.func 114)=.func (.func 114) #[] #[]:=rfl;generalize hr:a.eval=r at hx hy hf;refine cm_ (f:=114) (args:=#[.pointer (some (a_ b)),i_ k]) yc_ ((hE d b lp X w (hC.ok w hI) hC.zx (hC.lt w hI)).mono ?_);exact ut_
theorem mex_step (k:Nat) (hk:k<=2) (hE:∀ j,k=j+1->ExprOK j):ExprOK k:=by
 intro d b lp X w hM hz Ae;obtain ⟨W,hW,Ab,Ak,B0⟩:=ag_ w [i_ 0,i_ 0,.string ⟨#[]⟩,i_ 0,.slice none 0 0] 209;have A6:=hM.below Ab;have A7:b<w:=hM.lt;obtain ⟨X1,A8⟩:∃ X1:NP,X1=fun q=>X q\/q=w:=⟨_,rfl⟩
 obtain ⟨Z1,Aa⟩:∃ Z1:NP,Z1=fun q=>Zm d b q\/q=w:=⟨_,rfl⟩
 have A2:=h_ (X1 w/\Z1 w) (⟨by rw [A8];exact .inr rfl,by rw [Aa];exact .inr rfl⟩);have Ad:InvR d b lp X1 Z1 w w (be_ (k+1)) pE W:=⟨A6,.of_below Ab,fun q hq=>by rw [A8] at hq;rcases hq with hq | hq;(have:=Ae q hq;omega);omega,_,B0,vts_ex (SlP.nil _ _ _ _ _),pE_ex x_ x_ d_⟩;have hC:IC d b lp (x1 X1) (InvR d b lp X1 Z1 w w (be_ (k+1)) pE):=InvR.ic (fun _ _ _ h=>h) (fun q hq=>by rw [A8];exact .inl (hz q hq)) (fun q hq=>by rw [Aa];exact .inl hq) hM.nz;have HC:=q_ hC;have A3:=h_ (∀ w',Mk d b lp w'->Kp (Zm d b) W w'->InvR d b lp X1 Z1 w w (be_ (k+1)) pE w') (fun w' h1 h2=>hC.up W w' Ad h1 h2);have A0:=h_ (∀ (a:Act) (w2:World),InvR d b lp X1 Z1 w w (be_ (k+1)) pE w2->a.defers=[]->a.tmps.getD 4 undef=.pointer (some (a_ w))->bodyPost prog f114 (fun e w'=>RE X (k+1) e w'/\Md d b lp w w') .ret a w2) (fun a w2 hI A1 ha=>by
  obtain ⟨cs,g1,g2,g3⟩:=hI.bx
  obtain ⟨kd,n,s,op,A,m,c,rfl,_⟩:=g2.expr
  refine retC results114 ha underlying209 rfl (cs:=exL kd n s op A m c) isz5 g1.whole A1 ⟨⟨_,_,_,_,_,_,_,rfl,q_ ⟨g2.less (fun q _ hq=>by rw [A8];exact .inl hq),g3⟩⟩,hI.ok,hI.kp.mono (fun q hq Af=>?_)⟩
  rw [Aa] at Af
  rcases Af with h | h
  ·exact h
  omega)
 have HE:=q_ hE;have c0:=A6.c0;have Al:=A6.lt;have HD:=q_ A6.dice;have Ag:=q_ A6;clear hM hz Ae B0 Ab A6 Ad hC Ak A8 Aa hE;go_enter func114,ntmps114;go_upto_region 1 with fail;rw [<-hW];clear hW;go_upto_region 2 with (go_at_call 26;refine (bf_ d 12 W HD.o d_ d_).mono ?_;rintro e w1 ⟨r,hr,rfl,ht,_⟩);have A5:=q_ (Ag.o.thrown ht);have A4:=q_ (ht.kp b);clear c0 Al ht;by_cases h4:r<4
 ·have Ah:(r:Int)<4:=by omega
  go_upto_region 3 with fail;refine bg_ (X:=(x1 X1)) (Inv:=(InvR d b lp X1 Z1 w w (be_ (k+1)) pE)) (ks:=fun i=>([(kV _ (pt b)),(kV _ (pt b)),(kV _ (pt b)),(kV _ (pt d)),(kNat _ 9),(kInt _),(kEx _ 0),(kAny _)]:List (SK (x1 X1))).getD i (kAny _)) k_ (A3.o _ A5.o A4.o) ?_ ?_
  ·intro i o ho a w hI hout hin
   match i,ho with
   | 0,ho=>cases ho;exact M0_
   | 1,ho=>cases ho;exact cd_ rfl H0_ hI
   | 2,ho=>cases ho;exact cc_ d_ rfl H1_ hI
   | 3,ho=>cases ho;exact bm_ HC.o rfl H2_ hI
   | 4,ho=>cases ho;exact br_ (n:=9) HC.o rfl H3_ rfl d_ d_ hI
   | 5,ho=>cases ho;exact rk_sub (.inl rfl) rfl (cu_ (show (kNat _ 9).p w _ from H4_)) ⟨_,rfl⟩ hI
   | 6,ho=>cases ho;obtain ⟨q,hq⟩:=(show (kInt _).p w _ from H5_);exact rk_num HC.o rfl hq hI
   | 7,ho=>cases ho;exact de_ (fun _ h=>h) A7 A2.o.1 A2.o.2 rfl (hout 4 d_) (bi_ (d':=k+1) o_ (show (kEx _ 0).p w _ from H6_)) hI
   | q+8,ho=>exact n_ ho
  exact v7_
 have Ah:¬(r:Int)<4:=by omega
 by_cases h8:r<8
 ·have Aj:(r:Int)<8:=by omega
  go_upto_region 5 with fail;refine do_ (X:=(x1 X1)) (Inv:=(InvR d b lp X1 Z1 w w (be_ (k+1)) pE)) (ks:=fun i=>([(bu_ _ 5),(kV _ (pt b)),(kV _ (pt b)),(kV _ (pt b)),(kV _ (pt d)),(bu_ _ 5),(kV _ (i_ (5:Nat))),(kNat _ 5),(di_ _),(kStr _),(kEx _ 0),(kAny _)]:List (SK (x1 X1))).getD i (kAny _)) rfl k_ (A3.o _ (A5.o.below (Below.drew (b_))) (A4.o.az_ (Below.drew (b_)))) ?_ ?_
  ·intro i o ho a w hI hout hin
   match i,ho with
   | 0,ho=>cases ho;exact rk_names HC.o rfl hI
   | 1,ho=>cases ho;exact M0_
   | 2,ho=>cases ho;exact cd_ rfl H1_ hI
   | 3,ho=>cases ho;exact cc_ d_ rfl H2_ hI
   | 4,ho=>cases ho;exact bm_ HC.o rfl H3_ hI
   | 5,ho=>cases ho;exact rk_names HC.o rfl hI
   | 6,ho=>cases ho;exact rk_len rfl (show (bu_ _ 5).p w _ from H5_) hI
   | 7,ho=>cases ho;exact br_ (n:=5) HC.o rfl H4_ H6_ d_ d_ hI
   | 8,ho=>cases ho;exact rk_idx (n:=5) rfl (show (bu_ _ 5).p w _ from H0_) (show (kNat _ 5).p w _ from H7_) hI
   | 9,ho=>cases ho;exact ep_ rfl (show (di_ _).p w _ from H8_) hI
   | 10,ho=>cases ho;exact eq_ HC.o rfl (show (kStr _).p w _ from H9_) hI
   | 11,ho=>cases ho;exact de_ (fun _ h=>h) A7 A2.o.1 A2.o.2 rfl (hout 4 d_) (bi_ (d':=k+1) o_ (show (kEx _ 0).p w _ from H10_)) hI
   | q+12,ho=>exact n_ ho
  exact v7_
 have Aj:¬(r:Int)<8:=by omega
 cases k with
 | zero =>
  go_upto_region 5 with fail;refine do_ (X:=(x1 X1)) (Inv:=(InvR d b lp X1 Z1 w w (be_ (0+1)) pE)) (ks:=fun i=>([(bu_ _ 5),(kV _ (pt b)),(kV _ (pt b)),(kV _ (pt b)),(kV _ (pt d)),(bu_ _ 5),(kV _ (i_ (5:Nat))),(kNat _ 5),(di_ _),(kStr _),(kEx _ 0),(kAny _)]:List (SK (x1 X1))).getD i (kAny _)) rfl k_ (A3.o _ (A5.o.below (Below.drew (b_))) (A4.o.az_ (Below.drew (b_)))) ?_ ?_
  ·intro i o ho a w hI hout hin
   match i,ho with
   | 0,ho=>cases ho;exact rk_names HC.o rfl hI
   | 1,ho=>cases ho;exact M0_
   | 2,ho=>cases ho;exact cd_ rfl H1_ hI
   | 3,ho=>cases ho;exact cc_ d_ rfl H2_ hI
   | 4,ho=>cases ho;exact bm_ HC.o rfl H3_ hI
   | 5,ho=>cases ho;exact rk_names HC.o rfl hI
   | 6,ho=>cases ho;exact rk_len rfl (show (bu_ _ 5).p w _ from H5_) hI
   | 7,ho=>cases ho;exact br_ (n:=5) HC.o rfl H4_ H6_ d_ d_ hI
   | 8,ho=>cases ho;exact rk_idx (n:=5) rfl (show (bu_ _ 5).p w _ from H0_) (show (kNat _ 5).p w _ from H7_) hI
   | 9,ho=>cases ho;exact ep_ rfl (show (di_ _).p w _ from H8_) hI
   | 10,ho=>cases ho;exact eq_ HC.o rfl (show (kStr _).p w _ from H9_) hI
   | 11,ho=>cases ho;exact de_ (fun _ h=>h) A7 A2.o.1 A2.o.2 rfl (hout 4 d_) (bi_ (d':=0+1) o_ (show (kEx _ 0).p w _ from H10_)) hI
   | q+12,ho=>exact n_ ho
  exact v7_
 | succ k =>
 have Ac:=q_ (HE.o k rfl);have An:¬((k+1:Nat):Int)=0:=by omega
 by_cases h88:r=8
 ·subst h88;go_upto_region 7 with fail;refine do_ (X:=(x1 X1)) (Inv:=(InvR d b lp X1 Z1 w w (be_ ((k+1)+1)) pE)) (ks:=fun i=>([(kV _ (pt b)),(kV _ (pt b)),(kV _ (pt b)),(kV _ (pt d)),(kNat _ 3),(bu_ _ 2),(kV _ (pt b)),(kV _ (pt b)),(kV _ (pt b)),(kV _ (pt d)),(kNat _ 2),(di_ _),(kStr _),(kEx _ 0),(kExs _ 0 1),(kEx _ 1),(kAny _)]:List (SK (x1 X1))).getD i (kAny _)) rfl k_ (A3.o _ (A5.o.below (Below.drew (b_))) (A4.o.az_ (Below.drew (b_)))) ?_ ?_
  ·intro i o ho a w hI hout hin
   match i,ho with
   | 0,ho=>cases ho;exact M0_
   | 1,ho=>cases ho;exact cd_ rfl H0_ hI
   | 2,ho=>cases ho;exact cc_ d_ rfl H1_ hI
   | 3,ho=>cases ho;exact bm_ HC.o rfl H2_ hI
   | 4,ho=>cases ho;exact br_ (n:=3) HC.o rfl H3_ rfl d_ d_ hI
   | 5,ho=>cases ho;exact rk_bst2 HC.o rfl d_ d_ hI
   | 6,ho=>cases ho;exact M0_
   | 7,ho=>cases ho;exact cd_ rfl H6_ hI
   | 8,ho=>cases ho;exact cc_ d_ rfl H7_ hI
   | 9,ho=>cases ho;exact bm_ HC.o rfl H8_ hI
   | 10,ho=>cases ho;exact br_ (n:=2) HC.o rfl H9_ rfl d_ d_ hI
   | 11,ho=>cases ho;exact rk_idx (n:=2) rfl (show (bu_ _ 2).p w _ from H5_) (show (kNat _ 2).p w _ from H10_) hI
   | 12,ho=>cases ho;exact ep_ rfl (show (di_ _).p w _ from H11_) hI
   | 13,ho=>cases ho;exact eq_ HC.o rfl (show (kStr _).p w _ from H12_) hI
   | 14,ho=>cases ho;exact dt_ HC.o rfl (show (kEx _ 0).p w _ from H13_) hI
   | 15,ho=>cases ho;exact rk_be3 rfl (cu_ (show (kNat _ 3).p w _ from H4_)) (show (kExs _ 0 1).p w _ from H14_) hI
   | 16,ho=>cases ho;exact de_ (fun _ h=>h) A7 A2.o.1 A2.o.2 rfl (hout 4 d_) (bi_ (d':=(k+1)+1) o_ (show (kEx _ 1).p w _ from H15_)) hI
   | q+17,ho=>exact n_ ho
  exact v7_
 have Ai:¬(r:Int)=8:=by omega
 by_cases h9:r=9
 ·subst h9;go_upto_region 9 with fail;refine bg_ (X:=(x1 X1)) (Inv:=(InvR d b lp X1 Z1 w w (be_ ((k+1)+1)) pE)) (ks:=fun i=>([(kV _ (pt b)),(kV _ (pt b)),(kV _ (pt b)),(kV _ (pt d)),(kNat _ 4),(kEx _ 0),(kAny _)]:List (SK (x1 X1))).getD i (kAny _)) k_ (A3.o _ A5.o A4.o) ?_ ?_
  ·intro i o ho a w hI hout hin
   match i,ho with
   | 0,ho=>cases ho;exact M0_
   | 1,ho=>cases ho;exact cd_ rfl H0_ hI
   | 2,ho=>cases ho;exact cc_ d_ rfl H1_ hI
   | 3,ho=>cases ho;exact bm_ HC.o rfl H2_ hI
   | 4,ho=>cases ho;exact br_ (n:=4) HC.o rfl H3_ rfl d_ d_ hI
   | 5,ho=>cases ho;exact rk_be1 rfl d_ (cu_ (show (kNat _ 4).p w _ from H4_)) hI
   | 6,ho=>cases ho;exact de_ (fun _ h=>h) A7 A2.o.1 A2.o.2 rfl (hout 4 d_) (bi_ (d':=(k+1)+1) o_ (show (kEx _ 0).p w _ from H5_)) hI
   | q+7,ho=>exact n_ ho
  exact v7_
 have Am:¬(r:Int)=9:=by omega
 go_upto_region 10 with fail;refine bg_ (X:=(x1 X1)) (Inv:=(InvR d b lp X1 Z1 w w (be_ ((k+1)+1)) pE)) (ks:=fun i=>([(kV _ (pt b)),(kV _ (pt b)),(kV _ (pt b)),(kV _ (pt d)),(kNat _ 11),(kInt _),(kV _ (pt b)),(kV _ (i_ ((k)+1:Nat))),(kV _ (i_ (k:Nat))),(kEx _ (k+1)),(kV _ (pt b)),(kV _ (i_ ((k)+1:Nat))),(kV _ (i_ (k:Nat))),(kEx _ (k+1)),(kEx _ ((k+1)+1)),(kAny _)]:List (SK (x1 X1))).getD i (kAny _)) k_ (A3.o _ A5.o A4.o) ?_ ?_
 ·intro i o ho a w hI hout hin
  match i,ho with
  | 0,ho=>cases ho;exact M0_
  | 1,ho=>cases ho;exact cd_ rfl H0_ hI
  | 2,ho=>cases ho;exact cc_ d_ rfl H1_ hI
  | 3,ho=>cases ho;exact bm_ HC.o rfl H2_ hI
  | 4,ho=>cases ho;exact br_ (n:=11) HC.o rfl H3_ rfl d_ d_ hI
  | 5,ho=>cases ho;exact rk_add (.inl rfl) rfl ⟨_,rfl⟩ (cu_ (show (kNat _ 11).p w _ from H4_)) hI
  | 6,ho=>cases ho;exact M0_
  | 7,ho=>cases ho;exact bp_ (.inl rfl) (show (kV _ (i_ ((k)+1:Nat))).p w _ from (hout 1 d_)) hI
  | 8,ho=>cases ho;exact rk_dec (n:=k) rfl H7_ o_ hI
  | 9,ho=>cases ho;exact ci_ (k:=k) HC.o Ac.o rfl H6_ H8_ hI
  | 10,ho=>cases ho;exact M0_
  | 11,ho=>cases ho;exact bp_ (.inl rfl) (show (kV _ (i_ ((k)+1:Nat))).p w _ from (hout 1 d_)) hI
  | 12,ho=>cases ho;exact rk_dec (n:=k) rfl H11_ o_ hI
  | 13,ho=>cases ho;exact ci_ (k:=k) HC.o Ac.o rfl H10_ H12_ hI
  | 14,ho=>cases ho;exact rk_bin HC.o rfl (show (kInt _).p w _ from H5_) (show (kEx _ (k+1)).p w _ from H9_) (show (kEx _ (k+1)).p w _ from H13_) hI
  | 15,ho=>cases ho;exact de_ (fun _ h=>h) A7 A2.o.1 A2.o.2 rfl (hout 4 d_) (show (kEx _ ((k+1)+1)).p w _ from H14_) hI
  | q+16,ho=>exact n_ ho
 exact v7_
end Go.Proofs.YtfolidlmgfhkiaaGreat
namespace Go.Proofs.YtfolidlmgfhkiaaGreat.Dl
open Go.RowKit
theorem bef_trans {t u:Pr} {a b:Int} (h:Bef t u.a u.b) (h2:Bef u a b):Bef t a b:=by
 unfold Bef at *;omega
theorem lowb_at {ts:List Pr} (hs:Sorted ts) {i:Nat} {t:Pr} (ht:ts[i]?=some t):lowb ts t.a t.b=i:=by
 refine lowb_of (Nat.le_of_lt (e_ ht).1) (fun j u hj hu=>hs j i u t hj hu ht) (fun u hu=>?_);rw [ht] at hu;injection hu with hu;subst hu;unfold Bef;omega
theorem count_at {ts:List Pr} (hs:Sorted ts) {i:Nat} {t:Pr} (ht:ts[i]?=some t):countP ts t.a t.b=t.cnt:=by
 have hl:=lowb_at hs ht;have h:ts[lowb ts t.a t.b]?=some t:=by rw [hl];exact ht
 exact count_hit h (by rw [hit_at h];simp [isB])
theorem count_some {ts:List Pr} {a b:Int} (h:countP ts a b≠0):∃ (i:Nat) (t:Pr),ts[i]?=some t/\t.a=a/\t.b=b/\countP ts a b=t.cnt:=by
 cases hh:hit ts a b
 ·exact absurd (count_miss hh) h
 obtain ⟨t,ht,h1,h2⟩:=hit_some hh;exact ⟨_,t,ht,h1,h2,count_hit ht hh⟩
theorem sorted_pw {ts:List Pr}:Sorted ts↔ts.Pairwise (fun u v=>Bef u v.a v.b):=by
 rw [List.pairwise_iff_getElem];constructor
 ·intro h i j hi hj A0;exact h i j _ _ A0 (ge_ hi) (ge_ hj)
 intro h i j u v A0 hu hv;obtain ⟨hi,rfl⟩:=e_ hu;obtain ⟨hj,rfl⟩:=e_ hv;exact h i j hi hj A0
theorem decay_sorted {ts:List Pr} (h:Sorted ts):Sorted (bo_ ts):=by
 rw [sorted_pw] at h ⊢;exact (List.Pairwise.map half (fun a b A0=>A0) h).filter _
theorem decay_mem {ts:List Pr} {t:Pr}:t ∈ bo_ ts↔∃ u ∈ ts,t=half u/\1<=u.cnt / 2:=by
 unfold bo_;rw [List.mem_filter,List.mem_map];constructor
 ·rintro ⟨⟨u,hu,rfl⟩,h⟩;exact ⟨u,hu,rfl,of_decide_eq_true h⟩
 rintro ⟨u,hu,rfl,h⟩;exact ⟨⟨u,hu,rfl⟩,decide_eq_true h⟩
theorem cr_ {ts:List Pr} {t:Pr}:t ∈ ts↔∃ i:Nat,ts[i]?=some t:=List.mem_iff_getElem?
theorem count_mem {ts:List Pr} (hs:Sorted ts) {t:Pr} (ht:t ∈ ts):countP ts t.a t.b=t.cnt:=by
 obtain ⟨i,hi⟩:=cr_.1 ht;exact count_at hs hi
theorem count_decay {ts:List Pr} (hs:Sorted ts) (hp:∀ t ∈ ts,1<=t.cnt) (a b:Int):countP (bo_ ts) a b<=countP ts a b:=by
 by_cases h:countP (bo_ ts) a b=0
 ·rw [h];by_cases h2:countP ts a b=0
  ·omega
  obtain ⟨i,t,ht,rfl,rfl,hc⟩:=count_some h2;have:=hp t (cr_.2 ⟨i,ht⟩);omega
 obtain ⟨i,t,ht,rfl,rfl,hc⟩:=count_some h;obtain ⟨u,hu,rfl,h1⟩:=decay_mem.1 (cr_.2 ⟨i,ht⟩);have h2:=count_mem hs hu;have h3:countP ts (half u).a (half u).b=u.cnt:=h2;have h4:(half u).cnt=u.cnt / 2:=rfl;have:=hp u hu;rw [hc,h3,h4];omega
theorem decay_half {ts:List Pr} (hs:Sorted ts) {t:Pr} (ht:t ∈ bo_ ts):t.cnt=countP ts t.a t.b / 2/\1<=t.cnt:=by
 obtain ⟨u,hu,rfl,h1⟩:=decay_mem.1 ht;have h2:=count_mem hs hu;exact ⟨by show u.cnt / 2=countP ts u.a u.b / 2;rw [h2],h1⟩
theorem decay_good {ts:List Pr} (h:Good ts):Good (bo_ ts):=⟨decay_sorted h.1,fun i t ht=>by
 obtain ⟨u,hu,rfl,h1⟩:=decay_mem.1 (cr_.2 ⟨i,ht⟩)
 obtain ⟨j,hj⟩:=cr_.1 hu
 have:=h.2 j u hj
 have h4:(half u).cnt=u.cnt / 2:=rfl
 omega⟩
def Most (ts:List Pr) (N:Int):Prop:=∀ t ∈ ts,t.cnt<=N
theorem most_decay {ts:List Pr} {N M:Int} (h:Most ts N) (hN:N<=2*M+1):Most (bo_ ts) M:=fun t ht=>by
 obtain ⟨u,hu,rfl,h1⟩:=decay_mem.1 ht;have:=h u hu;show u.cnt / 2<=M
 omega
theorem most_none {ts:List Pr} (hg:Good ts) (h:Most ts 0):ts=[]:=by
 cases ts with
 | nil=>rfl
 | cons t r =>
  have h1:=h t (.head _);have h2:=hg.2 0 t rfl;omega
theorem most_train {ts:List Pr} {N:Int} (h:Most ts N) (hN:0<=N) (a b:Int):Most (bv_ ts a b) (N+1):=fun t ht=>by
 unfold bv_ at ht;split at ht
 ·obtain ⟨i,hi⟩:=cr_.1 ht;rw [List.getElem?_modify] at hi;cases hu:ts[i]? with
  | none=>rw [hu] at hi;simp at hi
  | some u =>
   rw [hu] at hi;have hm:=h u (cr_.2 ⟨i,hu⟩);simp at hi;subst hi;split
   ·unfold upd;dsimp only
    split <;> omega
   omega
 split at ht
 ·rcases List.mem_append.1 ht with h1 | h1
  ·have:=h t (List.mem_of_mem_take h1);omega
  rcases List.mem_cons.1 h1 with rfl | h1
  ·show (1:Int)<=N+1;omega
  have:=h t (List.mem_of_mem_drop h1);omega
 have:=h t ht;omega
theorem mem_take_at {ts:List Pr} {k:Nat} {t:Pr} (h:t ∈ ts.take k):∃ i,i<k/\ts[i]?=some t:=by
 obtain ⟨i,hi⟩:=cr_.1 h;rw [List.getElem?_take] at hi;split at hi
 ·exact ⟨i,‹_›,hi⟩
 cases hi
theorem mem_drop_at {ts:List Pr} {k:Nat} {t:Pr} (h:t ∈ ts.drop k):∃ i,k<=i/\ts[i]?=some t:=by
 obtain ⟨i,hi⟩:=cr_.1 h;rw [List.getElem?_drop] at hi;exact ⟨k+i,o_,hi⟩
theorem train_good {ts:List Pr} (h:Good ts) (a b:Int):Good (bv_ ts a b):=by
 unfold bv_;cases hh:hit ts a b
 ·rw [if_neg t_];split
  ·have hx:∀ u ∈ ts.drop (lowb ts a b),Bef ⟨a,b,1⟩ u.a u.b:=fun u hu=>by
    obtain ⟨i,hi,hu⟩:=mem_drop_at hu;have hl:lowb ts a b<ts.length:=by have:=(e_ hu).1;omega
    have h1:=lowb_ge ts a b _ (ge_ hl);have h2:=hit_at (ge_ hl);rw [hh] at h2;have h3:¬((ts[lowb ts a b]).a=a/\(ts[lowb ts a b]).b=b):=by simpa [isB] using h2.symm
    have h4:Bef ⟨a,b,1⟩ (ts[lowb ts a b]).a (ts[lowb ts a b]).b:=by
     unfold Bef at *;dsimp only
     omega
    rcases Nat.eq_or_lt_of_le hi with h5 | h5
    ·subst h5;rw [ge_ hl] at hu;injection hu with hu;rw [<-hu];exact h4
    exact bef_trans h4 (h.1 _ i _ u h5 (ge_ hl) hu)
   refine ⟨?_,fun i t ht=>?_⟩
   ·have hp:=sorted_pw.1 h.1;rw [sorted_pw,List.pairwise_append,List.pairwise_cons];refine ⟨hp.sublist (List.take_sublist _ _),⟨hx,hp.sublist (List.drop_sublist _ _)⟩,fun u hu v hv=>?_⟩;obtain ⟨i,hi,hu⟩:=mem_take_at hu;have h1:=lowb_lt ts a b i u hi hu;rcases List.mem_cons.1 hv with rfl | hv
    ·exact h1
    obtain ⟨j,hj,hv⟩:=mem_drop_at hv;exact h.1 i j u v o_ hu hv
   have hm:=cr_.2 ⟨i,ht⟩;rcases List.mem_append.1 hm with h1 | h1
   ·obtain ⟨j,_,hj⟩:=mem_take_at h1;exact h.2 j t hj
   rcases List.mem_cons.1 h1 with rfl | h1
   ·exact ⟨by show (1:Int)<=1;omega,by show (1:Int)<=1048576;omega⟩
   obtain ⟨j,_,hj⟩:=mem_drop_at h1;exact h.2 j t hj
  exact h
 rw [if_pos rfl];have A0:∀ (i:Nat) (t:Pr),(ts.modify (lowb ts a b) upd)[i]?=some t->∃ u,ts[i]?=some u/\t.a=u.a/\t.b=u.b/\(1<=t.cnt/\t.cnt<=1048576):=fun i t ht=>by
  rw [List.getElem?_modify] at ht;cases hu:ts[i]? with
  | none=>rw [hu] at ht;simp at ht
  | some u =>
   rw [hu] at ht;have hb:=h.2 i u hu;by_cases hi:lowb ts a b=i
   ·simp [hi] at ht;subst ht;refine ⟨u,rfl,rfl,rfl,?_⟩;unfold upd;dsimp only
    split <;> omega
   simp [hi] at ht;subst ht;exact ⟨u,rfl,rfl,rfl,hb⟩
 refine ⟨fun i j u w A1 hu hw=>?_,fun i t ht=>?_⟩
 ·obtain ⟨u',A2,e1,e2,_⟩:=A0 i u hu;obtain ⟨w',A3,e3,e4,_⟩:=A0 j w hw;have:=h.1 i j u' w' A1 A2 A3;unfold Bef at *;rw [e1,e2,e3,e4];exact this
 obtain ⟨_,_,_,_,hb⟩:=A0 i t ht;exact hb
theorem rvTo_mem {l:List Tk}:∀ {k:Nat} {x:Nat × Tk},x ∈ rvTo l k->x.1<k/\l[x.1]?=some x.2
 | 0,x,h=>by simp [rvTo] at h
 | k+1,x,h=>by
  unfold rvTo at h;split at h
  ·rename_i t ht
   rcases List.mem_cons.1 h with rfl | h
   ·exact ⟨Nat.lt_succ_self _,ht⟩
   obtain ⟨h1,h2⟩:=rvTo_mem h;exact ⟨o_,h2⟩
  obtain ⟨h1,h2⟩:=rvTo_mem h;exact ⟨o_,h2⟩
theorem waits_is (ts:List Pr) (l:List Tk) (k:Nat) (thr st:Int):co_ ts l k thr st=-1\/∃ j t,co_ ts l k thr st=(j:Nat)/\j<k/\l[j]?=some t/\(t.status=0\/t.status=1)/\thr<=countP ts t.start st:=by
 unfold co_;cases h:(rvTo l k).find? (fun x=>cnd ts thr st x.2) with
 | none=>exact .inl rfl
 | some x =>
  obtain ⟨h1,h2⟩:=rvTo_mem (List.mem_of_find?_eq_some h);have h3:=List.find?_some h;simp only [cnd,Bool.and_eq_true,Bool.or_eq_true,beq_iff_eq,decide_eq_true_eq] at h3;exact .inr ⟨x.1,x.2,rfl,h1,h2,h3.1,h3.2⟩
theorem rvTo_has {l:List Tk}:∀ {k j:Nat} {t:Tk},j<k->l[j]?=some t->(j,t) ∈ rvTo l k
 | 0,j,t,hj,_=>by omega
 | k+1,j,t,hj,ht=>by
  unfold rvTo;rcases Nat.lt_or_ge j k with h | h
  ·have:=rvTo_has h ht;split
   ·exact .tail _ this
   exact this
  obtain rfl:j=k:=by omega
  rw [ht];exact .head _
theorem waits_mono {ts us:List Pr} {l:List Tk} {k:Nat} {thr st:Int} (h:∀ a b,countP us a b<=countP ts a b) (hw:co_ us l k thr st≠-1):co_ ts l k thr st≠-1:=by
 rcases waits_is us l k thr st with h1 | ⟨j,t,_,hj,ht,hs,hc⟩
 ·exact absurd h1 hw
 intro h2;unfold co_ at h2;cases hf:(rvTo l k).find? (fun x=>cnd ts thr st x.2) with
 | some x=>rw [hf] at h2;simp at h2
 | none =>
  rw [List.find?_eq_none] at hf;have:=hf _ (rvTo_has hj ht);have A0:=h t.start st;apply this;simp only [cnd,Bool.and_eq_true,Bool.or_eq_true,beq_iff_eq,decide_eq_true_eq];exact ⟨hs,o_⟩
end Go.Proofs.YtfolidlmgfhkiaaGreat.Dl
namespace Go.Proofs.YtfolidlmgfhkiaaGreat.Dl
open Go.RowKit Go.Proofs.Tryz
def ex2:List Pr:=bv_ (bv_ [] 3 7) 3 7
theorem ex2_is:ex2=[⟨3,7,2⟩]:=rfl
def mkTk (s:Int):Tk:=⟨s,0,0,i_ s :: zeroCells.tail,rfl,rfl,rfl,rfl,by simp [zeroCells,Value.oneCell',List.replicate]⟩
theorem sane_any (w:World):Calls prog 24 #[] w fun e w'=>e=.returned (.bool true)/\Below w w w':=by
 go_enter func24,ntmps24;go_wp2_with fail;refine (train_any none 0 0 [] 3 7 _ Sl.nil o_ good_nil).mono ?_;rintro e w1 ⟨A1,n1,c1,rfl,An,Aq,_⟩;have AA:n1=1:=An.len.symm;subst AA;go_wp2_with fail;refine (train_any A1 1 c1 (bv_ [] 3 7) 3 7 _ An o_ ⟨fun i j u v Au hu hv=>by
  have hj:=(e_ hv).1
  have:(bv_ [] 3 7).length=1:=rfl
  omega,fun i t ht=>by
  have hj:=(e_ ht).1
  have h1:(bv_ [] 3 7).length=1:=rfl
  obtain rfl:i=0:=by omega
  have:t=⟨3,7,1⟩:=by
   have h2:(bv_ [] 3 7)[0]?=some ⟨3,7,1⟩:=rfl
   rw [h2] at ht;injection ht with ht;exact ht.symm
  subst this
  exact ⟨d_,d_⟩⟩).mono ?_
 rintro e w2 ⟨A2,n2,c2,rfl,Ao,Ay,_⟩;have AB:n2=1:=Ao.len.symm;subst AB;have A7:Below w w w2:=Aq.trans (Ay.mono Aq.size);go_wp2_with fail;obtain ⟨W,hW⟩:=ex_ ((w2.alloc (.cells #[.slice A2 1 c2] 73)).alloc (.cells ((mkTk 3).cells ++ (mkTk 7).cells).toArray 65));change Calls _ _ _ ((w2.alloc (.cells #[.slice A2 1 c2] 73)).alloc (.cells ((mkTk 3).cells ++ (mkTk 7).cells).toArray 65)) _;rw [<-hW];have Ar:Below w2 w2 W:=by rw [hW];exact (bel (b_))
 have Aw:(W:Nat)=w2+2:=by rw [hW];simp
 have q0:W.cell? (a_ w2)=some (.slice A2 1 c2):=zs_;have hs:Sl W W 3 Pr.cells A2 1 ex2:=Ao.up Ar;have hl:Sl W W 48 Tk.cells (some (a_ (w2+1))) 2 [mkTk 3,mkTk 7]:=by
  refine ⟨rfl,fun _=>⟨w2+1,0,rfl,o_,fun i x hx j u hu=>?_⟩⟩;have hi:i<2:=by have:=(e_ hx).1;simpa using this
  have hj:j<48:=by have:=(e_ hu).1;rwa [x.size] at this
  rw [hW,ar_ _ _ _ _ _ t_,List.getElem?_toArray,Nat.zero_add]
  match i,hi with
  | 0,_ =>
   injection hx with hx;subst hx;rw [Nat.zero_mul,Nat.zero_add,List.getElem?_append_left (by rw [Tk.size];exact hj)];exact hu
  | 1,_ =>
   injection hx with hx;subst hx;rw [List.getElem?_append_right (by rw [Tk.size];omega),Tk.size,show 1*48+j - 48=j by omega];exact hu
 have HS:=q_ hs;have Ag:=q_ hl;have Ap:Below w w W:=A7.trans (Ar.mono A7.size);have HZ:=q_ Aw;have Ae:Sorted ex2:=fun i j u v Au hu hv=>by
  have hj:=(e_ hv).1;rw [ex2_is] at hj;simp at hj;omega
 have As:∀ (i:Nat) (t:Pr),ex2[i]?=some t->1<=t.cnt/\t.cnt<=1048576:=fun i t ht=>by
  have hj:=(e_ ht).1;rw [ex2_is] at hj ht;simp at hj;subst hj;injection ht with ht;subst ht;exact ⟨d_,d_⟩
 have Af:=q_ Ae;have Ax:=q_ As;clear hW Aw hs hl An Ao Ae As;refine (dz_ A2 1 c2 ex2 3 7 W HS.o Af.o o_).mono ?_;rintro e w3 ⟨rfl,Ai⟩;rw [show countP ex2 3 7=2 from rfl];have q0:=(belc Ai wf_).trans q0;have A8:=Ap.trans (Ai.mono Ap.size);have A5:=Ai;go_wp2_with fail;refine (decay_any A2 1 c2 ex2 w3 (HS.o.up A5) o_ Ax.o).mono ?_;rintro e w4 ⟨A4,n4,c4,rfl,Av,Aj,_⟩;have AC:n4=1:=Av.len.symm;subst AC;have A6:=A5.trans (Aj.mono A5.size);have q0:=(belc Aj (by have:=HZ.o;have:=A5.size;omega)).trans q0;have A9:=A8.trans (Aj.mono A8.size);go_wp2_with fail;refine (dz_ A4 1 c4 (bo_ ex2) 3 7 w4 Av (fun i j u v Au hu hv=>by
  have hj:=(e_ hv).1
  have h1:(bo_ ex2).length=1:=rfl
  omega) o_).mono ?_
 rintro e w5 ⟨rfl,Ak⟩;rw [show countP (bo_ ex2) 3 7=1 from rfl];have A0:=A6.trans (Ak.mono A6.size);have q0:=(belc Ak (by have:=HZ.o;have:=A6.size;omega)).trans q0;have Aa:=A9.trans (Ak.mono A9.size);go_wp2_with fail;refine (fb_ A2 1 c2 ex2 (some (a_ (w2+1))) 2 2 [mkTk 3,mkTk 7] 1 2 (mkTk 7) w5 (HS.o.up A0) Af.o o_ (Ag.o.up A0) o_ o_ rfl o_).mono ?_;rintro e w6 ⟨rfl,Al⟩;rw [show co_ ex2 [mkTk 3,mkTk 7] 1 2 (mkTk 7).start=0 from rfl];have A3:=A0.trans (Al.mono A0.size);have q0:=(belc Al (by have:=HZ.o;have:=A0.size;omega)).trans q0;have Ab:=Aa.trans (Al.mono Aa.size);go_wp2_with fail;refine (fb_ A2 1 c2 ex2 (some (a_ (w2+1))) 2 2 [mkTk 3,mkTk 7] 1 3 (mkTk 7) w6 (HS.o.up A3) Af.o o_ (Ag.o.up A3) o_ o_ rfl o_).mono ?_;rintro e w7 ⟨rfl,Am⟩;rw [show co_ ex2 [mkTk 3,mkTk 7] 1 3 (mkTk 7).start=-1 from rfl];have Ad:=A3.trans (Am.mono A3.size);have q0:=(belc Am (by have:=HZ.o;have:=A3.size;omega)).trans q0;have Ac:=Ab.trans (Am.mono Ab.size);go_wp2_with fail;refine (fb_ A2 1 c2 ex2 (some (a_ (w2+1))) 2 2 [mkTk 3,mkTk 7] 0 1 (mkTk 3) w7 (HS.o.up Ad) Af.o o_ (Ag.o.up Ad) o_ o_ rfl o_).mono ?_;rintro e w8 ⟨rfl,Az⟩;rw [show co_ ex2 [mkTk 3,mkTk 7] 0 1 (mkTk 3).start=-1 from rfl];have Ah:=Ac.trans (Az.mono Ac.size);go_wp2;go_ret;exact ⟨rfl,Ah⟩
end Go.Proofs.YtfolidlmgfhkiaaGreat.Dl
namespace Go.Proofs.YtfolidlmgfhkiaaGreat.Dl
open Go.RowKit
theorem num_of {w:World} {X:NP} {K:Nat} {vs:VL} (h:VTs w X K af_ vs) {j:Nat} (hj:af_[j]?=some .num):∃ n,vs[j]?=some (i_ n):=by
 obtain ⟨u,hu,hv⟩:=h.2 j _ hj;obtain ⟨n,rfl⟩:=hv.int;exact ⟨n,hu⟩
theorem tk_of {w:World} {X:NP} {K:Nat} {vs:VL} (h:VTs w X K af_ vs):∃ t:Tk,vs=t.cells:=by
 obtain ⟨a,ha⟩:=num_of h (j:=0) rfl;obtain ⟨b,hb⟩:=num_of h (j:=42) rfl;obtain ⟨c,hc⟩:=num_of h (j:=43) rfl;exact ⟨⟨a,b,c,vs,h.1,ha,hb,hc,List.all_eq_true.2 h.one⟩,rfl⟩
theorem tks_of {w:World} {X:NP} {K:Nat} {A:OA} {n c:Nat} (h:SlT w X K af_ A n c):∃ l:List Tk,Sl w w 48 Tk.cells A n l:=by
 obtain ⟨l,hl,_⟩:=h.list Tk.cells (fun _=>True) (fun vs hv=>by obtain ⟨x,rfl⟩:=tk_of hv;exact ⟨x,rfl,trivial⟩);exact ⟨l,hl⟩
theorem sl_kp {α:Type} {w w':World} {Z:NP} {sz n:Nat} {cells:α->VL} {A:OA} {l:List α} (h:Sl w w sz cells A n l) (hk:Kp Z w w') (hA:0<n->∀ ad,A=some ad->¬Z ad.block):Sl w' w' sz cells A n l:=by
 refine ⟨h.len,fun hn=>?_⟩;obtain ⟨ab,ao,e,A0,hc⟩:=h.at_ hn;exact ⟨ab,ao,e,lt_ A0 hk.size,fun i x hx j u hu=>(hk.cell A0 (hA hn _ e)).trans (hc i x hx j u hu)⟩
theorem train_le {ts:List Pr} (h:ts.length<=256) (a b:Int):(bv_ ts a b).length<=256:=by
 unfold bv_;split
 ·rw [List.length_modify];exact h
 split
 ·have:=lowb_le ts a b;simp only [List.length_append,List.length_take,List.length_cons,List.length_drop];omega
 exact h
end Go.Proofs.YtfolidlmgfhkiaaGreat.Dl
namespace Go.Proofs.YtfolidlmgfhkiaaGreat
open Go.RowKit Go.Proofs.Tryz
theorem expr_ok0:ExprOK 0:=mex_step 0 d_ (fun j h=>absurd h o_)
theorem expr_ok1:ExprOK 1:=mex_step 1 d_ (fun j h=>by injection h with h;subst h;exact expr_ok0)
theorem expr_ok2:ExprOK 2:=mex_step 2 d_ (fun j h=>by injection h with h;subst h;exact expr_ok1)
theorem cl_:∀ k,k<=2->ExprOK k
 | 0,_=>expr_ok0
 | 1,_=>expr_ok1
 | 2,_=>expr_ok2
def PtrOK:Prop:=∀ (d b lp:Nat) (X:NP) (w:World),Mk d b lp w->(∀ q,Zm d b q->X q)->(∀ q,X q->q<w)->Calls prog 205 #[.pointer (some (a_ b))] w fun e w'=>RE X 2 e w'/\Md d b lp w w'
theorem pointer_ok:PtrOK:=by
 intro d b lp X w hM hz Ac;obtain ⟨W,hW,A9,Ag,B0⟩:=ag_ w [i_ 0,i_ 0,.string ⟨#[]⟩,i_ 0,.slice none 0 0] 209;have A3:=hM.below A9;have Aa:b<w:=hM.lt;obtain ⟨X1,A4⟩:∃ X1:NP,X1=fun q=>X q\/q=w:=⟨_,rfl⟩
 obtain ⟨Z1,A5⟩:∃ Z1:NP,Z1=fun q=>Zm d b q\/q=w:=⟨_,rfl⟩
 have A2:=h_ (X1 w/\Z1 w) (⟨by rw [A4];exact .inr rfl,by rw [A5];exact .inr rfl⟩);have Ab:InvR d b lp X1 Z1 w w (be_ (2)) pE W:=⟨A3,.of_below A9,fun q hq=>by rw [A4] at hq;rcases hq with hq | hq;(have:=Ac q hq;omega);omega,_,B0,vts_ex (SlP.nil _ _ _ _ _),pE_ex x_ x_ d_⟩;have hC:IC d b lp (x1 X1) (InvR d b lp X1 Z1 w w (be_ (2)) pE):=InvR.ic (fun _ _ _ h=>h) (fun q hq=>by rw [A4];exact .inl (hz q hq)) (fun q hq=>by rw [A5];exact .inl hq) hM.nz;have HC:=q_ hC;have A6:=h_ (∀ w',Mk d b lp w'->Kp (Zm d b) W w'->InvR d b lp X1 Z1 w w (be_ (2)) pE w') (fun w' h1 h2=>hC.up W w' Ab h1 h2);have A0:=h_ (∀ (a:Act) (w2:World),InvR d b lp X1 Z1 w w (be_ (2)) pE w2->a.defers=[]->a.tmps.getD 2 undef=.pointer (some (a_ w))->bodyPost prog f205 (fun e w'=>RE X (2) e w'/\Md d b lp w w') .ret a w2) (fun a w2 hI A1 ha=>by
  obtain ⟨cs,g1,g2,g3⟩:=hI.bx
  obtain ⟨kd,n,s,op,A,m,c,rfl,_⟩:=g2.expr
  refine retC results205 ha underlying209 rfl (cs:=exL kd n s op A m c) isz5 g1.whole A1 ⟨⟨_,_,_,_,_,_,_,rfl,q_ ⟨g2.less (fun q _ hq=>by rw [A4];exact .inl hq),g3⟩⟩,hI.ok,hI.kp.mono (fun q hq Ae=>?_)⟩
  rw [A5] at Ae
  rcases Ae with h | h
  ·exact h
  omega)
 have c0:=A3.c0;have Ah:=A3.lt;have HD:=q_ A3.dice;have Af:=q_ A3;clear hM hz Ac B0 A9 Ab hC Ag A4 A5;go_enter func205,ntmps205;go_upto_region 1 with fail;rw [<-hW];clear hW;go_upto_region 2 with (go_at_call 26;refine (bf_ d 4 W HD.o d_ d_).mono ?_;rintro e w1 ⟨r,hr,rfl,ht,_⟩);have A8:=q_ (Af.o.thrown ht);have A7:=q_ (ht.kp b);clear c0 Ah ht;by_cases h0:r=0
 ·subst h0;go_upto_region 3 with fail;refine bg_ (X:=(x1 X1)) (Inv:=(InvR d b lp X1 Z1 w w (be_ (2)) pE)) (ks:=fun i=>([(kV _ (pt b)),(kEx _ 2),(kAny _)]:List (SK (x1 X1))).getD i (kAny _)) k_ (A6.o _ A8.o A7.o) ?_ ?_
  ·intro i o ho a w hI hout hin
   match i,ho with
   | 0,ho=>cases ho;exact M0_
   | 1,ho=>cases ho;exact ci_ (k:=1) HC.o (cl_ 1 d_) rfl H0_ rfl hI
   | 2,ho=>cases ho;exact de_ (fun _ h=>h) Aa A2.o.1 A2.o.2 rfl (hout 2 d_) (show (kEx _ 2).p w _ from H1_) hI
   | q+3,ho=>exact n_ ho
  exact tc_
 have Ai:¬(r:Int)=0:=by omega
 by_cases h1:r=1
 ·subst h1;go_upto_region 5 with fail;refine bg_ (X:=(x1 X1)) (Inv:=(InvR d b lp X1 Z1 w w (be_ (2)) pE)) (ks:=fun i=>([(kV _ (pt b)),(kV _ (pt b)),(kV _ (pt b)),(kV _ (pt d)),(kNat _ 2),(kEx _ 0),(kExs _ 0 1),(kEx _ 1),(kAny _)]:List (SK (x1 X1))).getD i (kAny _)) k_ (A6.o _ A8.o A7.o) ?_ ?_
  ·intro i o ho a w hI hout hin
   match i,ho with
   | 0,ho=>cases ho;exact M0_
   | 1,ho=>cases ho;exact cd_ rfl H0_ hI
   | 2,ho=>cases ho;exact cc_ d_ rfl H1_ hI
   | 3,ho=>cases ho;exact bm_ HC.o rfl H2_ hI
   | 4,ho=>cases ho;exact br_ (n:=2) HC.o rfl H3_ rfl d_ d_ hI
   | 5,ho=>cases ho;exact eq_ HC.o rfl ⟨_,rfl,d_⟩ hI
   | 6,ho=>cases ho;exact dt_ HC.o rfl (show (kEx _ 0).p w _ from H5_) hI
   | 7,ho=>cases ho;exact rk_be3 rfl (cu_ (show (kNat _ 2).p w _ from H4_)) (show (kExs _ 0 1).p w _ from H6_) hI
   | 8,ho=>cases ho;exact de_ (fun _ h=>h) Aa A2.o.1 A2.o.2 rfl (hout 2 d_) (bi_ (d':=2) d_ (show (kEx _ 1).p w _ from H7_)) hI
   | q+9,ho=>exact n_ ho
  exact tc_
 have Aj:¬(r:Int)=1:=by omega
 go_upto_region 6 with fail;refine bg_ (X:=(x1 X1)) (Inv:=(InvR d b lp X1 Z1 w w (be_ (2)) pE)) (ks:=fun i=>([(bu_ _ 2),(kV _ (pt b)),(kV _ (pt b)),(kV _ (pt b)),(kV _ (pt d)),(kNat _ 2),(di_ _),(kStr _),(kEx _ 0),(kAny _)]:List (SK (x1 X1))).getD i (kAny _)) k_ (A6.o _ A8.o A7.o) ?_ ?_
 ·intro i o ho a w hI hout hin
  match i,ho with
  | 0,ho=>cases ho;exact rk_bst2 HC.o rfl d_ d_ hI
  | 1,ho=>cases ho;exact M0_
  | 2,ho=>cases ho;exact cd_ rfl H1_ hI
  | 3,ho=>cases ho;exact cc_ d_ rfl H2_ hI
  | 4,ho=>cases ho;exact bm_ HC.o rfl H3_ hI
  | 5,ho=>cases ho;exact br_ (n:=2) HC.o rfl H4_ rfl d_ d_ hI
  | 6,ho=>cases ho;exact rk_idx (n:=2) rfl (show (bu_ _ 2).p w _ from H0_) (show (kNat _ 2).p w _ from H5_) hI
  | 7,ho=>cases ho;exact ep_ rfl (show (di_ _).p w _ from H6_) hI
  | 8,ho=>cases ho;exact eq_ HC.o rfl (show (kStr _).p w _ from H7_) hI
  | 9,ho=>cases ho;exact de_ (fun _ h=>h) Aa A2.o.1 A2.o.2 rfl (hout 2 d_) (bi_ (d':=2) d_ (show (kEx _ 0).p w _ from H8_)) hI
  | q+10,ho=>exact n_ ho
 exact tc_
def CallOK:Prop:=∀ (d b lp:Nat) (X:NP) (s:ByteArray) (w:World),s.size<=100->Mk d b lp w->(∀ q,Zm d b q->X q)->(∀ q,X q->q<w)->Calls prog 206 #[.pointer (some (a_ b)),.string s] w fun e w'=>RS X 0 e w'/\Md d b lp w w'
theorem call_ok:CallOK:=by
 intro d b lp X s w hs hM hz Ad;obtain ⟨W,hW,Aa,Ag,B0⟩:=ag_ w [i_ 0,.string ⟨#[]⟩,.string ⟨#[]⟩,i_ 0,i_ 0,.slice none 0 0,.slice none 0 0,.slice none 0 0] 212;have A3:=hM.below Aa;have Ab:b<w:=hM.lt;obtain ⟨X1,A4⟩:∃ X1:NP,X1=fun q=>X q\/q=w:=⟨_,rfl⟩
 obtain ⟨Z1,A7⟩:∃ Z1:NP,Z1=fun q=>Zm d b q\/q=w:=⟨_,rfl⟩
 have A2:=h_ (X1 w/\Z1 w) (⟨by rw [A4];exact .inr rfl,by rw [A7];exact .inr rfl⟩);have Ac:InvR d b lp X1 Z1 w w (ah_ (0)) pS W:=⟨A3,.of_below Aa,fun q hq=>by rw [A4] at hq;rcases hq with hq | hq;(have:=Ad q hq;omega);omega,_,B0,ec_ (SlP.nil _ _ _ _ _),pS_st x_ x_ x_ d_ d_⟩;have hC:IC d b lp (x1 X1) (InvR d b lp X1 Z1 w w (ah_ (0)) pS):=InvR.ic (fun _ _ _ h=>h) (fun q hq=>by rw [A4];exact .inl (hz q hq)) (fun q hq=>by rw [A7];exact .inl hq) hM.nz;have HC:=q_ hC;have A8:=h_ (∀ w',Mk d b lp w'->Kp (Zm d b) W w'->InvR d b lp X1 Z1 w w (ah_ (0)) pS w') (fun w' h1 h2=>hC.up W w' Ac h1 h2);have A0:=h_ (∀ (a:Act) (w2:World),InvR d b lp X1 Z1 w w (ah_ (0)) pS w2->a.defers=[]->a.tmps.getD 4 undef=.pointer (some (a_ w))->bodyPost prog f206 (fun e w'=>RS X (0) e w'/\Md d b lp w w') .ret a w2) (fun a w2 hI A1 ha=>by
  obtain ⟨cs,g1,g2,g3⟩:=hI.bx
  obtain ⟨kd,s,f,n,op,A,B,C,m,c,c1,c2,rfl,_⟩:=g2.stmt0
  refine retC results206 ha underlying212 rfl (cs:=stL kd s f n op A m c B 0 c1 C 0 c2) isz8 g1.whole A1 ⟨⟨_,_,_,_,_,_,_,_,_,_,_,_,_,_,rfl,q_ ⟨g2.less (fun q _ hq=>by rw [A4];exact .inl hq),g3⟩⟩,hI.ok,hI.kp.mono (fun q hq Af=>?_)⟩
  rw [A7] at Af
  rcases Af with h | h
  ·exact h
  omega)
 have c0:=A3.c0;have Ah:=A3.lt;have HD:=q_ A3.dice;have A9:=q_ A3;clear hM hz Ad B0 Aa Ac hC Ag A4 A7;obtain ⟨fn,c3⟩:=A9.o.c3;go_enter func206,ntmps206;go_upto_region 1 with fail;rw [<-hW];clear hW;by_cases hf:fn=0
 ·subst hf;go_upto_if 17 with (go_at_call 26;refine (bf_ d 2 W HD.o d_ d_).mono ?_;rintro e w1 ⟨r,hr,rfl,ht,_⟩);have A6:=q_ (A9.o.thrown ht);have A5:=q_ (ht.kp b);clear c0 Ah ht c3;by_cases h0:r=0
  ·subst h0;go_upto_region 2 with fail;refine do_ (X:=(x1 X1)) (Inv:=(InvR d b lp X1 Z1 w w (ah_ (0)) pS)) (ks:=fun i=>([(kStr _),(kV _ (pt b)),(kEx _ 2),(kV _ (pt b)),(kV _ (pt b)),(kV _ (pt b)),(kV _ (pt d)),(kNat _ 4),(kEx _ 0),(kExs _ dE 2),(kSt _ 0),(kAny _)]:List (SK (x1 X1))).getD i (kAny _)) rfl k_ (A8.o _ (A6.o.below (Below.drew (b_))) (A5.o.az_ (Below.drew (b_)))) ?_ ?_
   ·intro i o ho a w hI hout hin
    match i,ho with
    | 0,ho=>cases ho;exact bp_ (.inl rfl) (show (kStr _).p w _ from ⟨s,hout 1 d_,hs⟩) hI
    | 1,ho=>cases ho;exact M0_
    | 2,ho=>cases ho;exact ci_ (k:=1) HC.o (cl_ 1 d_) rfl H1_ rfl hI
    | 3,ho=>cases ho;exact M0_
    | 4,ho=>cases ho;exact cd_ rfl H3_ hI
    | 5,ho=>cases ho;exact cc_ d_ rfl H4_ hI
    | 6,ho=>cases ho;exact bm_ HC.o rfl H5_ hI
    | 7,ho=>cases ho;exact br_ (n:=4) HC.o rfl H6_ rfl d_ d_ hI
    | 8,ho=>cases ho;obtain ⟨q,hq⟩:=(cu_ (show (kNat _ 4).p w _ from H7_));exact rk_num HC.o rfl hq hI
    | 9,ho=>cases ho;exact rk_bse2 HC.o rfl (bi_ (d':=dE) d_ (show (kEx _ 2).p w _ from H2_)) (bi_ (d':=dE) d_ (show (kEx _ 0).p w _ from H8_)) hI
    | 10,ho=>cases ho;exact rk_bs_0125 rfl rfl (show (kStr _).p w _ from H0_) rfl d_ (show (kExs _ dE 2).p w _ from H9_) d_ d_ (fun _=>.inl d_) hI
    | 11,ho=>cases ho;exact bj_ (fun _ h=>h) Ab A2.o.1 A2.o.2 rfl (hout 4 d_) (show (kSt _ 0).p w _ from H10_) hI
    | q+12,ho=>exact n_ ho
   exact tb_
  have Ai:¬(r:Int)=0:=by omega
  go_upto_region 3 with fail;refine bg_ (X:=(x1 X1)) (Inv:=(InvR d b lp X1 Z1 w w (ah_ (0)) pS)) (ks:=fun i=>([(kStr _),(kV _ (pt b)),(kEx _ 2),(kExs _ dE 1),(kSt _ 0),(kAny _)]:List (SK (x1 X1))).getD i (kAny _)) k_ (A8.o _ A6.o A5.o) ?_ ?_
  ·intro i o ho a w hI hout hin
   match i,ho with
   | 0,ho=>cases ho;exact bp_ (.inl rfl) (show (kStr _).p w _ from ⟨s,hout 1 d_,hs⟩) hI
   | 1,ho=>cases ho;exact M0_
   | 2,ho=>cases ho;exact ci_ (k:=1) HC.o (cl_ 1 d_) rfl H1_ rfl hI
   | 3,ho=>cases ho;exact dt_ HC.o rfl (bi_ (d':=dE) d_ (show (kEx _ 2).p w _ from H2_)) hI
   | 4,ho=>cases ho;exact rk_bs_0125 rfl rfl (show (kStr _).p w _ from H0_) rfl d_ (show (kExs _ dE 1).p w _ from H3_) d_ d_ (fun _=>.inr d_) hI
   | 5,ho=>cases ho;exact bj_ (fun _ h=>h) Ab A2.o.1 A2.o.2 rfl (hout 4 d_) (show (kSt _ 0).p w _ from H4_) hI
   | q+6,ho=>exact n_ ho
  exact tb_
 have A6:=A9;have A5:=q_ (Kp.refl (Zm d b) W);go_upto_region 3 with fail;refine bg_ (X:=(x1 X1)) (Inv:=(InvR d b lp X1 Z1 w w (ah_ (0)) pS)) (ks:=fun i=>([(kStr _),(kV _ (pt b)),(kEx _ 2),(kExs _ dE 1),(kSt _ 0),(kAny _)]:List (SK (x1 X1))).getD i (kAny _)) k_ (A8.o _ A6.o A5.o) ?_ ?_
 ·intro i o ho a w hI hout hin
  match i,ho with
  | 0,ho=>cases ho;exact bp_ (.inl rfl) (show (kStr _).p w _ from ⟨s,hout 1 d_,hs⟩) hI
  | 1,ho=>cases ho;exact M0_
  | 2,ho=>cases ho;exact ci_ (k:=1) HC.o (cl_ 1 d_) rfl H1_ rfl hI
  | 3,ho=>cases ho;exact dt_ HC.o rfl (bi_ (d':=dE) d_ (show (kEx _ 2).p w _ from H2_)) hI
  | 4,ho=>cases ho;exact rk_bs_0125 rfl rfl (show (kStr _).p w _ from H0_) rfl d_ (show (kExs _ dE 1).p w _ from H3_) d_ d_ (fun _=>.inr d_) hI
  | 5,ho=>cases ho;exact bj_ (fun _ h=>h) Ab A2.o.1 A2.o.2 rfl (hout 4 d_) (show (kSt _ 0).p w _ from H4_) hI
  | q+6,ho=>exact n_ ho
 exact tb_
end Go.Proofs.YtfolidlmgfhkiaaGreat
