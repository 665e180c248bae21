/- Lemmas: each says what a function of the program leaves, under the conditions that it states. -/
import Derived.Test.YtfolidlmgfhkiaaGreatZ18
set_option linter.unusedVariables false
set_option linter.unusedSimpArgs false
set_option maxRecDepth 100000
set_option maxHeartbeats 8000000
namespace Go.Proofs.YtfolidlmgfhkiaaGreat
open Go.RowKit Go.Proofs.Tryz
def RI (e:Ending):Prop:=∃ n:Int,e=.returned (i_ n)
theorem nodes_step (kd n:Int) (s:ByteArray) (op:Int) (A:OA) (m c:Nat) (left:Int) (w:World) (hm:m<=900000000) (hsz:s.size<=100)
  (hk:∀ k,k<m->∃ (g o:Nat) (kd' n':Int) (s':ByteArray) (op':Int) (A':OA) (m' c':Nat),A=some (f_ g o)/\g<w/\w.cell? ⟨g,o+k*5,none⟩=some (i_ kd')/\w.cell? ⟨g,o+k*5+1,none⟩=some (i_ n')/\w.cell? ⟨g,o+k*5+2,none⟩=some (.string s')/\w.cell? ⟨g,o+k*5+3,none⟩=some (i_ op')/\w.cell? ⟨g,o+k*5+4,none⟩=some (.slice A' m' c') ∧
   ∀ (w':World) (l':Int),Below w w w'->Calls prog 209 #[.agg #[i_ kd',i_ n',.string s',i_ op',.slice A' m' c'],i_ l'] w' fun e w''=>RI e/\Below w' w' w'') :
  Calls prog 209 #[.agg #[i_ kd,i_ n,.string s,i_ op,.slice A m c],i_ left] w fun e w'=>RI e/\Below w w w':=by
 obtain ⟨W,hW,A8,Ac,B0⟩:=af_ w [i_ kd,i_ n,.string s,i_ op,.slice A m c] 209;have KC:=h_ (∀ w',Below W W w'->(w'.cell? (a_ w)=some (i_ kd)/\w'.cell? (f_ w 1)=some (i_ n)/\w'.cell? (f_ w 2)=some (.string s)/\w'.cell? (f_ w 3)=some (i_ op)/\w'.cell? (f_ w 4)=some (.slice A m c))) (fun w' hb =>
  ⟨(B0.below hb).2.1 0 _ rfl,(B0.below hb).2.1 1 _ rfl,(B0.below hb).2.1 2 _ rfl,(B0.below hb).2.1 3 _ rfl,(B0.below hb).2.1 4 _ rfl⟩)
 have HW:=q_ A8;have HS:=q_ hsz;have HK:=q_ hk;obtain ⟨x0,x1,x2,x3,x4⟩:=KC.o W (b_);clear B0 A8 hk hsz;go_enter func209,ntmps209;go_upto_region 1 with fail;rw [←hW];clear hW;go_wp2_with fail;refine (Name_any op W).mono ?_;rintro e W1 ⟨⟨sx,b6,rfl⟩,A7⟩;have H1:=q_ A7;clear x0 x1 x2 x3 x4 A7;obtain ⟨x0,x1,x2,x3,x4⟩:=KC.o W1 H1.o;go_upto_block 0 with fail;go_cut [7,8,9] (fun nb A6 ok wx=>∃ (b:Bool) (q:Int) (o:Bool),nb=.bool b/\A6=i_ q/\ok=.bool o/\Hid (Below W1 W1 wx))
 case first =>
  by_cases h4:kd=4
  ·subst h4;go_upto_region 13 with fail;have A5:s.toList.isEmpty=true∨s.toList.isEmpty=false:=by cases s.toList.isEmpty;exact .inr rfl;exact .inl rfl
   rcases A5 with hs | hs <;> by_cases hn:(0:Int)<=n
   all_goals
    go_quiet (fail);go_wp2;go_meet;exact ⟨_,_,_,rfl,rfl,rfl,q_ (bel (b_))⟩
  by_cases h6:kd=6
  ·subst h6;go_upto_region 17 with fail;have A5:s.toList.isEmpty=true∨s.toList.isEmpty=false:=by cases s.toList.isEmpty;exact .inr rfl;exact .inl rfl
   rcases A5 with hs | hs <;> by_cases hn:(0:Int)<=n
   all_goals
    go_quiet (fail);go_wp2;go_meet;exact ⟨_,_,_,rfl,rfl,rfl,q_ (bel (b_))⟩
  go_wp2_with (go_at_call 186;refine (Name05_any _ _ HS.o).mono ?_;rintro e w1 ⟨⟨b,rfl⟩,hb⟩;have A3:=q_ hb;clear x0 x1 x2 x3 x4;obtain ⟨x0,x1,x2,x3,x4⟩:=KC.o w1 (H1.o.trans (A3.o.mono H1.o.size)));all_goals
   go_meet;first
    | exact ⟨_,_,_,rfl,rfl,rfl,A3⟩
    | exact ⟨_,_,_,rfl,rfl,rfl,q_ (bel (b_))⟩
 rename World=>wx
 obtain ⟨b7,q8,b9,rfl,rfl,rfl,Ab⟩:=hcut;have HX:=q_ (H1.o.trans (Ab.o.mono H1.o.size));clear x0 x1 x2 x3 x4;obtain ⟨x0,x1,x2,x3,x4⟩:=KC.o wx HX.o;have Ag:(w:Nat)<wx:=by have:=HX.o.size;omega
 go_upto_region 18 with fail;go_cut [114] (fun v wy=>∃ b:Bool,v=.bool b/\Hid (wy=wx))
 case first =>
  cases b9 <;> cases b7
  all_goals
   go_wp2;all_goals
    go_meet;exact ⟨_,rfl,q_ rfl⟩
 case rest =>
 rename World=>wy
 obtain ⟨b,rfl,A9⟩:=hcut;have hw:=A9.o;subst hw;clear A9;cases b
 case true =>
  go_wp2;go_ret;exact ⟨⟨_,rfl⟩,HW.o.trans (HX.o.mono HW.o.size)⟩
 go_upto_region 22 with fail;go_loopw [10,118] (fun q i wr=>∃ (k:Nat) (a:Int),k<=m/\q=i_ a/\i=i_ k/\Hid (Below wy wy wr)) (fun _ i _=>m - (intOf i).toNat)
 case atStart=>exact ⟨0,1,o_,rfl,rfl,q_ (b_)⟩
 obtain ⟨k,a,Ae,rfl,rfl,HR⟩:=hrel;have A2:=q_ (HW.o.trans ((HX.o.trans (HR.o.mono HX.o.size)).mono HW.o.size));have Af:(w:Nat)<=wr:=A2.o.size;have Ah:(wy:Nat)<=wr:=HR.o.size;by_cases hlt:k<m
 ·have A4:(k:Int)<(m:Int):=by omega
  obtain ⟨g,o,kd',n',s',op',A',m',c',rfl,hg,k0,k1,k2,k3,k4,A0⟩:=HK.o k hlt;have Ad:g<wr:=lt_ hg A2.o.size;have A1:∀ j,wr.cell? (f_ g j)=w.cell? (f_ g j):=fun j=>belc A2.o hg
  rw [←A1] at k0 k1 k2 k3 k4;have Aa:=q_ A0;clear A1 A0 x0 x1 x2 x3 x4;by_cases ha:a<17
  ·go_wp2_with (go_at_call 209;refine (Aa.o _ _ (bel A2.o)).mono ?_;rintro e w1 ⟨⟨r,rfl⟩,hb⟩;have A3:=h_ (Below wy wy w1) (Below.trans (b:=_) (bel HR.o) (hb.mono (by simp <;> (have:=HR.o.size;omega)))));go_roundw
   case rel=>exact ⟨k+1,_,o_,rfl,by go_num,A3⟩
   case measure=>simp [intOf];omega
  go_wp2;go_roundw
  case rel=>exact ⟨k+1,_,o_,rfl,by go_num,q_ (bel HR.o)⟩
  case measure=>simp [intOf];omega
 have A4:¬(k:Int)<(m:Int):=by omega
 go_wp2;go_ret;exact ⟨⟨_,rfl⟩,(bel A2.o)⟩
theorem pE_size {kd n:Int} {s:ByteArray} {op:Int} {A:OA} {m c:Nat} (h:pE [i_ kd,i_ n,.string s,i_ op,.slice A m c]):s.size<=100:=by
 obtain ⟨A0,n',s',A1,A',m',c',e,_,_,hs⟩:=h;injection e with _ e;injection e with _ e;injection e with e _;injection e with e;subst e;exact hs
theorem nodes_any (X:NP) (K:Nat) (hK:K<=900000000):∀ (d:Nat) (vs:VL) (left:Int) (w:World),VTs w X K (ay_ d) vs->pE vs->Calls prog 209 #[.agg vs.toArray,i_ left] w fun e w'=>RI e/\Below w w w'
 | 0,vs,left,w,h,hp0=>by
  obtain ⟨kd,n,s,op,A,c,rfl⟩:=h.expr0;exact nodes_step kd n s op A 0 c left w o_ (pE_size hp0) (fun k hk=>o_)
 | d+1,vs,left,w,h,hp0=>by
  obtain ⟨kd,n,s,op,A,m,c,rfl,hp⟩:=h.expr;refine nodes_step kd n s op A m c left w (Nat.le_trans hp.sl.le hK) (pE_size hp0) (fun k hk=>?_);obtain ⟨g,o,us,rfl,hg,hX,hu,A0,hc⟩:=hp.el hk;have A1:=A0;obtain ⟨A2,n',s',A3,A',m',c',rfl,_,_,_⟩:=A0;rw [dz_] at hc;exact ⟨g,o,A2,n',s',A3,A',m',c',rfl,hg,hc 0 _ rfl,hc 1 _ rfl,hc 2 _ rfl,hc 3 _ rfl,hc 4 _ rfl,fun w' l' hb=>nodes_any X K hK d _ l' w' (hu.up (.of_below hb) (l_)) A1⟩
theorem Expr_any (X:NP) (K:Nat) (hK:K<=900000000) (d:Nat) (vs:VL) (w:World) (h:VTs w X K (ay_ d) vs) (hp:pE vs):Calls prog 208 #[.agg vs.toArray] w fun e w'=>RB e/\Below w w w':=by
 have HP:=q_ hp;clear hp;obtain ⟨kd,n,s,op,A,m,c,rfl⟩:∃ (kd n:Int) (s:ByteArray) (op:Int) (A:OA) (m c:Nat),vs=[i_ kd,i_ n,.string s,i_ op,.slice A m c]:=by
  cases d with
  | zero=>obtain ⟨kd,n,s,op,A,c,rfl⟩:=h.expr0;exact ⟨kd,n,s,op,A,0,c,rfl⟩
  | succ d=>obtain ⟨kd,n,s,op,A,m,c,rfl,_⟩:=h.expr;exact ⟨kd,n,s,op,A,m,c,rfl⟩
 have H:=q_ h;clear h;go_enter func208,ntmps208;go_wp2_with (go_at_call 209;refine (nodes_any X K hK d _ _ _ (H.o.up (Kp.of_below (bel (b_))) (l_)) HP.o).mono ?_;rintro e w1 ⟨⟨r,rfl⟩,hb⟩;have A0:=h_ (Below w w w1) (Below.trans (b:=_) (bel (b_)) (hb.mono t_)));go_ret;exact ⟨⟨_,rfl⟩,A0.o⟩
def KOk (blk k:Nat) (v:Value):Prop :=
 match k with
 | 0=>∃ x,v=.bool x
 | 1=>∃ n,v=.int .i64 n
 | 2=>∃ x:ByteArray,v=.string x/\x.size<=100
 | 3=>∃ A n c,v=.slice A n c
 | o+4=>v=.pointer (some ⟨blk,o,none⟩)
structure St (N blk:Nat) (G:List (Nat × Nat × Option (Nat × Bool))) (a:Act):Prop where
 sz:a.tmps.size=N
 df:a.defers=[]
 ok:∀ t k g,(t,k,g) ∈ G->(∀ s b,g=some (s,b)->a.tmps.getD s undef=.bool b)->KOk blk k (a.tmps.getD t undef)
theorem St.get {N blk:Nat} {G:List (Nat × Nat × Option (Nat × Bool))} {a:Act} (h:St N blk G a) {t k:Nat} (hm:(t,k,none) ∈ G):KOk blk k (a.eval (.tmp t)):=h.ok t k none hm (fun _ _ h=>by cases h)
theorem St.getg {N blk:Nat} {G:List (Nat × Nat × Option (Nat × Bool))} {a:Act} (h:St N blk G a) {t k s:Nat} {b:Bool} (hm:(t,k,some (s,b)) ∈ G) (hs:a.tmps.getD s undef=.bool b):KOk blk k (a.eval (.tmp t)):=h.ok t k _ hm (fun _ _ h=>by injection h with h;injection h with h1 h2;subst h1 h2;exact hs)
def frs (d:Nat) (G:List (Nat × Nat × Option (Nat × Bool))):Bool:=G.all fun e=>e.1 != d && (match e.2.2 with | none=>true | some (s,_)=>s != d)
theorem getD_put {a:Act} {d t:Nat} {v:Value} (hd:d<a.tmps.size):(a.put (some d) v).tmps.getD t undef=if t=d then v else a.tmps.getD t undef:=by
 show (a.tmps.setIfInBounds d v).getD t undef=_
 rw [Array.getD_eq_getD_getElem?,Array.getElem?_setIfInBounds,Array.getD_eq_getD_getElem?];by_cases h:t=d
 ·subst h;rw [if_pos rfl,if_pos rfl,if_pos hd];rfl
 rw [if_neg (fun e=>h e.symm),if_neg h]
theorem St.put {N blk:Nat} {G:List (Nat × Nat × Option (Nat × Bool))} {a:Act} (h:St N blk G a) {d k:Nat} {g:Option (Nat × Bool)} {v:Value} (hd:d<N) (hf:frs d G=true) (hgd:∀ s b,g=some (s,b)->s≠d) (hv:(∀ s b,g=some (s,b)->a.tmps.getD s undef=.bool b)->KOk blk k v):St N blk ((d,k,g) :: G) (a.put (some d) v):=by
 have A1:d<a.tmps.size:=by rw [h.sz];exact hd
 refine ⟨by show (a.tmps.setIfInBounds d v).size=N;rw [Array.size_setIfInBounds];exact h.sz,h.df,fun t k' g' hm hg=>?_⟩;rcases List.mem_cons.1 hm with he | hm
 ·injection he with e1 e2;injection e2 with e2 e3;subst e1 e2 e3;rw [getD_put A1,if_pos rfl];refine hv (fun s b hs=>?_);have:=hg s b hs
  rwa [getD_put A1,if_neg (hgd s b hs)] at this
 have A0:=List.all_eq_true.1 hf _ hm;simp only [Bool.and_eq_true,bne_iff_ne,ne_eq] at A0;rw [getD_put A1,if_neg A0.1];refine h.ok t k' g' hm (fun s b hs=>?_);have h2:=A0.2;subst hs;have:=hg s b rfl
 rwa [getD_put A1,if_neg (by simpa using h2)] at this
section
variable {P:Program} {ops:Array Oper} {Q:Exit->Act->World->Prop} {rest:List Oper} {o:Oper} {a:Act} {w:World} {N blk d k:Nat} {G:List (Nat × Nat × Option (Nat × Bool))} {Inv:World->Prop}
def Rn (P:Program) (Q:Exit->Act->World->Prop) (blk:Nat) (Inv:World->Prop) (o:Oper) (a:Act) (w:World) (k:Nat):Prop:=∀ K:Act->World->Prop,(∀ v w',KOk blk k v->Inv w'->K (a.put o.dst v) w')->o.wp P a w K Q
theorem st_u (k:Nat) (H:St N blk G a) (hg:o.guard=none) (hd:o.dst=some d) (hN:d<N) (hf:frs d G=true) (hr:Rn P Q blk Inv o a w k) (h:∀ a' w',St N blk ((d,k,none) :: G) a'->Inv w'->wpList P ops Q rest a' w'):wpList P ops Q (o :: rest) a w:=by
 refine wpList_plain hg fun K hK=>hr K (fun v w' hv hi=>hK _ _ ?_)
 rw [hd];exact h _ _ (H.put hN hf (fun _ _ h=>by cases h) (fun _=>hv)) hi
theorem st_g (k:Nat) {j s:Nat} {b:Bool} (H:St N blk G a) (hI:Inv w) (hg:o.guard=some (j,b)) (hj:(ops[j]?).bind (·.dst)=some s) (hs:s<N) (hsd:s≠d) (hd:o.dst=some d) (hN:d<N) (hf:frs d G=true) (hr:a.tmps.getD s undef=.bool b->Rn P Q blk Inv o a w k) (h:∀ a' w',St N blk ((d,k,some (s,b)) :: G) a'->Inv w'->wpList P ops Q rest a' w'):wpList P ops Q (o :: rest) a w:=by
 have hy:yielded ops a.tmps j=some b↔a.tmps.getD s undef=.bool b:=by
  have A0:s<a.tmps.size:=by rw [H.sz];exact hs
  unfold yielded;rw [hj];show (match a.tmps[s]? with | some (.bool b)=>some b | _=>none)=some b↔_
  rw [Array.getD_eq_getD_getElem?,Array.getElem?_eq_getElem A0];simp only [Option.getD_some];cases a.tmps[s] <;> simp
 refine wpList_step fun K hK=>?_
 by_cases hw:a.tmps.getD s undef=.bool b
 ·have:Region.wanted o (yielded ops a.tmps)=true:=by simp [Region.wanted,hg,hy.2 hw]
  rw [if_pos this];refine hr hw K (fun v w' hv hi=>hK _ _ ?_);rw [hd];exact h _ _ (H.put hN hf (fun s' b' e=>by injection e with e;injection e with e1 e2;subst e1;exact hsd) (fun _=>hv)) hi
 have:Region.wanted o (yielded ops a.tmps)=false:=by
  have hne:yielded ops a.tmps j≠some b:=fun e=>hw (hy.1 e)
  simp [Region.wanted,hg];exact hne
 rw [if_neg (by rw [this];decide)];refine hK _ _ ?_;rw [hd];exact h _ _ (H.put hN hf (fun s' b' e=>by injection e with e;injection e with e1 e2;subst e1;exact hsd) (fun hc=>absurd (hc s b rfl) hw)) hI
theorem abs_wp {l:List Oper} (R:Act->World->Prop) (hR:R a w) (h:∀ a w,R a w->wpList P ops Q l a w):wpList P ops Q l a w:=h _ _ hR
theorem St.start (hs:a.tmps.size=N) (hd:a.defers=[]):St N blk [] a:=⟨hs,hd,fun _ _ _ h=>by cases h⟩
theorem St.know (h:St N blk G a) (t:Nat) (hk:KOk blk k (a.tmps.getD t undef)):St N blk ((t,k,none) :: G) a:=⟨h.sz,h.df,fun t' k' g hm hg=>by
 rcases List.mem_cons.1 hm with he | hm
 ·injection he with e1 e2
  injection e2 with e2 e3
  subst e1 e2
  exact hk
 exact h.ok t' k' g hm hg⟩
/- The operations. -/
theorem ej_ {v:Value} (hr:(execOp a.eval o).run P w=.ok (.value v) w) (hv:KOk blk k v) (hI:Inv w):Rn P Q blk Inv o a w k:=fun K hK=>by
 unfold Oper.wp;rw [hr];exact hK _ _ hv hI
theorem bg_ {x:Operand} (ho:o.op=.move x∨o.op=.assign x) (hx:KOk blk k (a.eval x)) (hI:Inv w):Rn P Q blk Inv o a w k:=by
 generalize hr:a.eval=r at hx;refine ej_ (v:=r x) (by rw [hr];rcases ho with ho | ho <;> simp [execOp,ho]) hx hI
theorem rn_not {x:Operand} {T:TypeId} (ho:o.op=.unOp .not T x) (hx:KOk blk 0 (a.eval x)) (hI:Inv w):Rn P Q blk Inv o a w 0:=by
 obtain ⟨b,hb⟩:=hx;generalize hr:a.eval=r at hb;exact ej_ (v:=.bool (!b)) (by rw [hr];simp [execOp,ho,hb,go_sem]) ⟨_,rfl⟩ hI
theorem ca_ {c x y:Operand} (ho:o.op=.pick c x y) (hc:KOk blk 0 (a.eval c)) (hx:a.eval c=.bool true->KOk blk k (a.eval x)) (hy:a.eval c=.bool false->KOk blk k (a.eval y)) (hI:Inv w):Rn P Q blk Inv o a w k:=by
 obtain ⟨b,hb⟩:=hc;generalize hr:a.eval=r at hb hx hy;cases b
 ·exact ej_ (v:=r y) (by rw [hr];simp [execOp,ho,hb,go_sem]) (hy hb) hI
 exact ej_ (v:=r x) (by rw [hr];simp [execOp,ho,hb,go_sem]) (hx hb) hI
end
section
variable {ops:Array Oper} {Q:Exit->Act->World->Prop} {rest:List Oper} {o:Oper} {a:Act} {w:World} {N blk d k:Nat} {G:List (Nat × Nat × Option (Nat × Bool))} {Inv:World->Prop}
theorem rn_cmp {x y:Operand} {bop:BinOp} {T:TypeId} (hb:bop=.geq∨bop=.lss∨bop=.neq∨bop=.gtr∨bop=.eql) (hT:T=3∨T=2) (ho:o.op=.binOp bop T x y T) (hx:KOk blk 1 (a.eval x)) (hy:KOk blk 1 (a.eval y)) (hI:Inv w):Rn prog Q blk Inv o a w 0:=by
 obtain ⟨m,hm⟩:=hx;obtain ⟨n,hn⟩:=hy;generalize hr:a.eval=r at hm hn;rcases hb with rfl | rfl | rfl | rfl | rfl
 ·exact ej_ (v:=.bool (decide (n<=m))) (by rw [hr];rcases hT with rfl | rfl <;> simp [execOp,ho,hm,hn,go_sem]) ⟨_,rfl⟩ hI
 ·exact ej_ (v:=.bool (decide (m<n))) (by rw [hr];rcases hT with rfl | rfl <;> simp [execOp,ho,hm,hn,go_sem]) ⟨_,rfl⟩ hI
 ·exact ej_ (v:=.bool (m != n)) (by rw [hr];rcases hT with rfl | rfl <;> simp [execOp,ho,hm,hn,go_sem]) ⟨_,rfl⟩ hI
 ·exact ej_ (v:=.bool (decide (n<m))) (by rw [hr];rcases hT with rfl | rfl <;> simp [execOp,ho,hm,hn,go_sem]) ⟨_,rfl⟩ hI
 exact ej_ (v:=.bool (m == n)) (by rw [hr];rcases hT with rfl | rfl <;> simp [execOp,ho,hm,hn,go_sem]) ⟨_,rfl⟩ hI
theorem rn_eqs {x y:Operand} (ho:o.op=.binOp .eql 9 x y 9) (hx:KOk blk 2 (a.eval x)) (hy:KOk blk 2 (a.eval y)) (hI:Inv w):Rn prog Q blk Inv o a w 0:=by
 obtain ⟨m,hm,_⟩:=hx;obtain ⟨n,hn,_⟩:=hy;generalize hr:a.eval=r at hm hn;exact ej_ (v:=.bool (m.toList == n.toList)) (by rw [hr];simp [execOp,ho,hm,hn,go_sem]) ⟨_,rfl⟩ hI
theorem dm_ {x:Operand} {f:Nat} (ho:o.op=.fieldAddr 212 x f) (hf:f<8) (hx:KOk blk 4 (a.eval x)) (hI:Inv w):Rn prog Q blk Inv o a w (f+4):=by
 have hx:a.eval x=.pointer (some (a_ blk)):=hx;generalize hr:a.eval=r at hx;refine ej_ (v:=.pointer (some (f_ blk f))) ?_ rfl hI;rw [hr]
 match f,hf with
 | 0,_=>simp [execOp,ho,hx,go_sem]
 | 1,_=>simp [execOp,ho,hx,go_sem]
 | 2,_=>simp [execOp,ho,hx,go_sem]
 | 3,_=>simp [execOp,ho,hx,go_sem]
 | 4,_=>simp [execOp,ho,hx,go_sem]
 | 5,_=>simp [execOp,ho,hx,go_sem]
 | 6,_=>simp [execOp,ho,hx,go_sem]
 | 7,_=>simp [execOp,ho,hx,go_sem]
theorem eo_ {x:Operand} {T:TypeId} {f:Nat} {v:Value} (hT:T=3∨T=2∨T=9∨T=192∨T=207) (ho:o.op=.load T x) (hx:KOk blk (f+4) (a.eval x)) (hc:w.cell? (f_ blk f)=some v) (hv:KOk blk k v) (hI:Inv w):Rn prog Q blk Inv o a w k:=by
 have hx:a.eval x=.pointer (some (f_ blk f)):=hx;generalize hr:a.eval=r at hx;refine ej_ (v:=v) ?_ hv hI;rw [hr];rcases hT with rfl | rfl | rfl | rfl | rfl <;> simp [execOp,ho,hx,hc,go_sem]
theorem rn_len {x:Operand} {T:TypeId} (hT:T=192∨T=207) (ho:o.op=.call { callee:=.builtin .len,args:=#[x],argTypes:=#[T] }) (hx:KOk blk 3 (a.eval x)) (hI:Inv w):Rn prog Q blk Inv o a w 1:=by
 obtain ⟨A,n,c,hn⟩:=hx;generalize hr:a.eval=r at hn;refine ej_ (v:=i_ n) ?_ ⟨_,rfl⟩ hI;rw [hr];rcases hT with rfl | rfl <;> simp [execOp,ho,hn,go_sem]
theorem rn_name {x:Operand} (ho:o.op=.call { callee:=.value (.func 186),args:=#[x],argTypes:=#[9] }) (hx:KOk blk 2 (a.eval x)) (hI:∀ w',Below w w w'->Inv w'):Rn prog Q blk Inv o a w 0:=fun K hK=>by
 obtain ⟨s,hs,hsz⟩:=hx;have A0:(execOp a.eval o).run prog w=.ok (.enter 186 #[.string s]) w:=by
  have hf:a.eval (.func 186)=.func (.func 186) #[] #[]:=rfl;generalize hr:a.eval=r at hs hf;simp [execOp,ho,hs,hf,go_sem]
 unfold Oper.wp;rw [A0];show Calls _ _ _ _ _
 refine (Name05_any s w hsz).mono ?_;rintro e w' ⟨⟨b,rfl⟩,hb⟩;exact hK _ _ ⟨b,rfl⟩ (hI w' hb)
end
structure StB (w:World) (b:Nat) (kd:Int) (s f:ByteArray) (n op:Int) (A B C:OA) (m c m1 c1 m2 c2:Nat):Prop where
 y0:w.cell? (a_ b)=some (i_ kd)
 y1:w.cell? (f_ b 1)=some (.string s)
 y2:w.cell? (f_ b 2)=some (.string f)
 y3:w.cell? (f_ b 3)=some (i_ n)
 y4:w.cell? (f_ b 4)=some (i_ op)
 y5:w.cell? (f_ b 5)=some (.slice A m c)
 y6:w.cell? (f_ b 6)=some (.slice B m1 c1)
 y7:w.cell? (f_ b 7)=some (.slice C m2 c2)
theorem statement_step (kd:Int) (s f:ByteArray) (n op:Int) (A B C:OA) (m c m1 c1 m2 c2:Nat) (X:NP) (K:Nat) (hK:K<=900000000) (d:Nat) (w:World) (hp:SlP w X K pE (ay_ d) A m c) (hsz:s.size<=100/\f.size<=100) :
  Calls prog 202 #[.agg #[i_ kd,.string s,.string f,i_ n,i_ op,.slice A m c,.slice B m1 c1,.slice C m2 c2]] w fun e w'=>RB e/\Below w w w':=by
 obtain ⟨W,hW,A7,Ae,B0⟩:=af_ w [i_ kd,.string s,.string f,i_ n,i_ op,.slice A m c,.slice B m1 c1,.slice C m2 c2] 212;have KC:=h_ (∀ w',Below W W w'->StB w' w kd s f n op A B C m c m1 c1 m2 c2) (fun w' hb =>
  ⟨(B0.below hb).2.1 0 _ rfl,(B0.below hb).2.1 1 _ rfl,(B0.below hb).2.1 2 _ rfl,(B0.below hb).2.1 3 _ rfl,(B0.below hb).2.1 4 _ rfl,(B0.below hb).2.1 5 _ rfl,(B0.below hb).2.1 6 _ rfl,(B0.below hb).2.1 7 _ rfl⟩)
 have HW:=q_ A7;have HP:=q_ hp;have HS:=q_ hsz;have Ah:=hp.sl.le;obtain ⟨x0,x1,x2,x3,x4,x5,x6,x7⟩:=KC.o W (b_);clear B0 A7 hp hsz;go_enter func202,ntmps202;go_upto_region 1 with fail;rw [←hW];clear hW;go_wp2_with fail;refine (parts_any kd W).mono ?_;rintro e W1 ⟨⟨q3,b4,b5,b6,b7,b8,b9,Ab,rfl⟩,A5⟩;have H1:=q_ A5;clear x0 x1 x2 x3 x4 x5 x6 x7 A5;obtain ⟨x0,x1,x2,x3,x4,x5,x6,x7⟩:=KC.o W1 H1.o;cases Ab
 case false =>
  go_wp2;go_ret;exact ⟨⟨_,rfl⟩,(by repeat (first | (with_reducible exact (HW.o.trans (H1.o.mono HW.o.size))) | (with_reducible refine Below.drew ?_) | (with_reducible refine below_drewN ?_ _) | (with_reducible refine Below.setCell ?_ ?_ _;rotate_left;(first | omega | (simp <;> omega))) | (with_reducible refine Below.alloc ?_ ?_ _;rotate_left;(first | omega | (simp <;> omega)))))⟩
 go_upto_region 2 with fail;go_cut [45] (fun v wx=>∃ b:Bool,v=.bool b/\Hid (wx=W1))
 case first =>
  go_wp2;all_goals
   go_meet;exact ⟨_,rfl,q_ rfl⟩
 rename World=>wx
 obtain ⟨b,rfl,A9⟩:=hcut;have hw:=A9.o;subst hw;clear A9;cases b
 case true =>
  go_wp2;go_ret;exact ⟨⟨_,rfl⟩,(by repeat (first | (with_reducible exact (HW.o.trans (H1.o.mono HW.o.size))) | (with_reducible refine Below.drew ?_) | (with_reducible refine below_drewN ?_ _) | (with_reducible refine Below.setCell ?_ ?_ _;rotate_left;(first | omega | (simp <;> omega))) | (with_reducible refine Below.alloc ?_ ?_ _;rotate_left;(first | omega | (simp <;> omega)))))⟩
 go_upto_region 5 with fail;go_loopw [49] (fun i wr=>∃ k:Nat,k<=m/\i=i_ k/\Hid (Below wx wx wr)) (fun i _=>m - (intOf i).toNat)
 case atStart=>exact ⟨0,o_,rfl,q_ (b_)⟩
 obtain ⟨k,Ag,rfl,HR⟩:=hrel;have A2:=q_ (H1.o.trans (HR.o.mono H1.o.size));have A1:=q_ (HW.o.trans (A2.o.mono HW.o.size));have Ai:(w:Nat)<=wr:=A1.o.size;have Aj:(wx:Nat)<=wr:=HR.o.size;clear x0 x1 x2 x3 x4 x5 x6 x7;by_cases hlt:k<m
 ·have A3:(k:Int)<(m:Int):=by omega
  obtain ⟨g,o,us,rfl,hg,hX,hu,A8,hc⟩:=HP.o.el hlt;have Aa:=q_ A8;obtain ⟨Ac,n',s',Ad,A',m',c',rfl,_,_,_⟩:=A8;rw [dz_] at hc;have A0:∀ j,wr.cell? (f_ g j)=w.cell? (f_ g j):=fun j=>belc A1.o hg
  have Af:g<wr:=lt_ hg A1.o.size;have k0:wr.cell? ⟨g,o+k*5,none⟩=some (i_ Ac):=(A0 _).trans (hc 0 _ rfl);have k1:wr.cell? ⟨g,o+k*5+1,none⟩=some (i_ n'):=(A0 _).trans (hc 1 _ rfl);have k2:wr.cell? ⟨g,o+k*5+2,none⟩=some (.string s'):=(A0 _).trans (hc 2 _ rfl);have k3:wr.cell? ⟨g,o+k*5+3,none⟩=some (i_ Ad):=(A0 _).trans (hc 3 _ rfl);have k4:wr.cell? ⟨g,o+k*5+4,none⟩=some (.slice A' m' c'):=(A0 _).trans (hc 4 _ rfl);have HU:=q_ (hu.up (Kp.of_below A1.o) (l_));clear A0 hc hu;go_wp2_with (go_at_call 208;refine (Expr_any X K hK d _ _ (HU.o.up (Kp.of_below (bel (b_))) (l_)) Aa.o).mono ?_;rintro e w1 ⟨⟨r,rfl⟩,hb⟩;have A4:=h_ (Below wx wx w1) (Below.trans (b:=_) (bel HR.o) (hb.mono (by simp <;> (have:=HR.o.size;omega)))));all_goals first
   | (go_ret;exact ⟨⟨_,rfl⟩,(by repeat (first | (with_reducible exact (HW.o.trans ((H1.o.trans (A4.o.mono H1.o.size)).mono HW.o.size))) | (with_reducible refine Below.drew ?_) | (with_reducible refine below_drewN ?_ _) | (with_reducible refine Below.setCell ?_ ?_ _;rotate_left;(first | omega | (simp <;> omega))) | (with_reducible refine Below.alloc ?_ ?_ _;rotate_left;(first | omega | (simp <;> omega)))))⟩)
   | (go_roundw
      case rel=>exact ⟨k+1,o_,by go_num,A4⟩
      case measure=>simp [intOf];omega)
 have A3:¬(k:Int)<(m:Int):=by omega
 obtain ⟨x0,x1,x2,x3,x4,x5,x6,x7⟩:=KC.o wr A2.o;go_wp2_with fail;refine (Name_any op wr).mono ?_;rintro e W2 ⟨⟨sx,bo,rfl⟩,A6⟩;have H2:=q_ (A2.o.trans (A6.mono A2.o.size));clear x0 x1 x2 x3 x4 x5 x6 x7 A6;obtain ⟨x0,x1,x2,x3,x4,x5,x6,x7⟩:=KC.o W2 H2.o;clear x0 x1 x2 x3 x4 x5 x6 x7;go_upto_region 11 with fail;refine wp_region_list ?_;simp only [];refine abs_wp (fun a w'=>St 150 w [(14,0,none),(9,0,none),(8,0,none),(7,0,none),(6,0,none),(5,0,none),(4,0,none),(1,4,none)] a/\Below W W w') ⟨?_,H2.o⟩ (fun a w ⟨H,HI⟩=>?_)
 ·refine St.know ?_ 14 ⟨_,rfl⟩;refine St.know ?_ 9 ⟨_,rfl⟩;refine St.know ?_ 8 ⟨_,rfl⟩;refine St.know ?_ 7 ⟨_,rfl⟩;refine St.know ?_ 6 ⟨_,rfl⟩;refine St.know ?_ 5 ⟨_,rfl⟩;refine St.know ?_ 4 ⟨_,rfl⟩;refine St.know ?_ 1 rfl;exact St.start rfl rfl
 refine st_u 0 H rfl rfl d_ d_ (bg_ (.inl rfl) (H.get (t:=4) d_) HI) (fun a w H HI=>?_);refine st_u 0 H rfl rfl d_ d_ (bg_ (.inl rfl) (H.get (t:=63) d_) HI) (fun a w H HI=>?_);refine st_g 5 H HI rfl rfl d_ d_ rfl d_ d_ (fun hw=>dm_ (f:=1) rfl d_ (H.get (t:=1) d_) HI) (fun a w H HI=>?_);refine st_g 2 H HI rfl rfl d_ d_ rfl d_ d_ (fun hw=>eo_ (f:=1) d_ rfl (H.getg (t:=65) d_ hw) (KC.o _ HI).y1 ⟨_,rfl,HS.o.1⟩ HI) (fun a w H HI=>?_);refine st_g 0 H HI rfl rfl d_ d_ rfl d_ d_ (fun hw=>rn_name rfl (H.getg (t:=66) d_ hw) (fun w' hb=>HI.trans (hb.mono HI.size))) (fun a w H HI=>?_);refine st_u 0 H rfl rfl d_ d_ (ca_ rfl (H.get (t:=64) d_) (fun hc=>(H.getg (t:=67) d_ hc)) (fun _=>⟨_,rfl⟩) HI) (fun a w H HI=>?_);refine st_u 0 H rfl rfl d_ d_ (bg_ (.inl rfl) (H.get (t:=68) d_) HI) (fun a w H HI=>?_);refine st_g 0 H HI rfl rfl d_ d_ rfl d_ d_ (fun hw=>bg_ (.inl rfl) (H.get (t:=4) d_) HI) (fun a w H HI=>?_);refine st_g 0 H HI rfl rfl d_ d_ rfl d_ d_ (fun hw=>rn_not rfl (H.getg (t:=70) d_ hw) HI) (fun a w H HI=>?_);refine st_g 0 H HI rfl rfl d_ d_ rfl d_ d_ (fun hw=>bg_ (.inl rfl) (H.getg (t:=71) d_ hw) HI) (fun a w H HI=>?_);refine st_g 5 H HI rfl rfl d_ d_ rfl d_ d_ (fun hw=>dm_ (f:=1) rfl d_ (H.get (t:=1) d_) HI) (fun a w H HI=>?_);refine st_g 2 H HI rfl rfl d_ d_ rfl d_ d_ (fun hw=>eo_ (f:=1) d_ rfl (H.getg (t:=73) d_ hw) (KC.o _ HI).y1 ⟨_,rfl,HS.o.1⟩ HI) (fun a w H HI=>?_);refine st_g 0 H HI rfl rfl d_ d_ rfl d_ d_ (fun hw=>rn_eqs rfl (H.getg (t:=74) d_ hw) ⟨_,rfl,d_⟩ HI) (fun a w H HI=>?_);refine st_g 0 H HI rfl rfl d_ d_ rfl d_ d_ (fun hw=>ca_ rfl (H.getg (t:=72) d_ hw) (fun hc=>(H.getg (t:=75) d_ hc)) (fun _=>⟨_,rfl⟩) HI) (fun a w H HI=>?_);refine st_u 0 H rfl rfl d_ d_ (ca_ rfl (H.get (t:=69) d_) (fun _=>⟨_,rfl⟩) (fun hc=>(H.getg (t:=76) d_ hc)) HI) (fun a w H HI=>?_);refine st_u 0 H rfl rfl d_ d_ (bg_ (.inl rfl) (H.get (t:=77) d_) HI) (fun a w H HI=>?_);refine st_g 0 H HI rfl rfl d_ d_ rfl d_ d_ (fun hw=>bg_ (.inl rfl) (H.get (t:=5) d_) HI) (fun a w H HI=>?_);refine st_g 0 H HI rfl rfl d_ d_ rfl d_ d_ (fun hw=>bg_ (.inl rfl) (H.getg (t:=79) d_ hw) HI) (fun a w H HI=>?_);refine st_g 6 H HI rfl rfl d_ d_ rfl d_ d_ (fun hw=>dm_ (f:=2) rfl d_ (H.get (t:=1) d_) HI) (fun a w H HI=>?_);refine st_g 2 H HI rfl rfl d_ d_ rfl d_ d_ (fun hw=>eo_ (f:=2) d_ rfl (H.getg (t:=81) d_ hw) (KC.o _ HI).y2 ⟨_,rfl,HS.o.2⟩ HI) (fun a w H HI=>?_);refine st_g 0 H HI rfl rfl d_ d_ rfl d_ d_ (fun hw=>rn_name rfl (H.getg (t:=82) d_ hw) (fun w' hb=>HI.trans (hb.mono HI.size))) (fun a w H HI=>?_);refine st_g 0 H HI rfl rfl d_ d_ rfl d_ d_ (fun hw=>ca_ rfl (H.getg (t:=80) d_ hw) (fun hc=>(H.getg (t:=83) d_ hc)) (fun _=>⟨_,rfl⟩) HI) (fun a w H HI=>?_);refine st_g 0 H HI rfl rfl d_ d_ rfl d_ d_ (fun hw=>bg_ (.inl rfl) (H.getg (t:=84) d_ hw) HI) (fun a w H HI=>?_);refine st_g 0 H HI rfl rfl d_ d_ rfl d_ d_ (fun hw=>bg_ (.inl rfl) (H.get (t:=5) d_) HI) (fun a w H HI=>?_);refine st_g 0 H HI rfl rfl d_ d_ rfl d_ d_ (fun hw=>rn_not rfl (H.getg (t:=86) d_ hw) HI) (fun a w H HI=>?_)
 refine st_g 0 H HI rfl rfl d_ d_ rfl d_ d_ (fun hw=>bg_ (.inl rfl) (H.getg (t:=87) d_ hw) HI) (fun a w H HI=>?_);refine st_g 6 H HI rfl rfl d_ d_ rfl d_ d_ (fun hw=>dm_ (f:=2) rfl d_ (H.get (t:=1) d_) HI) (fun a w H HI=>?_);refine st_g 2 H HI rfl rfl d_ d_ rfl d_ d_ (fun hw=>eo_ (f:=2) d_ rfl (H.getg (t:=89) d_ hw) (KC.o _ HI).y2 ⟨_,rfl,HS.o.2⟩ HI) (fun a w H HI=>?_);refine st_g 0 H HI rfl rfl d_ d_ rfl d_ d_ (fun hw=>rn_eqs rfl (H.getg (t:=90) d_ hw) ⟨_,rfl,d_⟩ HI) (fun a w H HI=>?_);refine st_g 0 H HI rfl rfl d_ d_ rfl d_ d_ (fun hw=>ca_ rfl (H.getg (t:=88) d_ hw) (fun hc=>(H.getg (t:=91) d_ hc)) (fun _=>⟨_,rfl⟩) HI) (fun a w H HI=>?_);refine st_g 0 H HI rfl rfl d_ d_ rfl d_ d_ (fun hw=>ca_ rfl (H.getg (t:=85) d_ hw) (fun _=>⟨_,rfl⟩) (fun hc=>(H.getg (t:=92) d_ hc)) HI) (fun a w H HI=>?_);refine st_u 0 H rfl rfl d_ d_ (ca_ rfl (H.get (t:=78) d_) (fun hc=>(H.getg (t:=93) d_ hc)) (fun _=>⟨_,rfl⟩) HI) (fun a w H HI=>?_);refine st_u 0 H rfl rfl d_ d_ (bg_ (.inl rfl) (H.get (t:=94) d_) HI) (fun a w H HI=>?_);refine st_g 0 H HI rfl rfl d_ d_ rfl d_ d_ (fun hw=>bg_ (.inl rfl) (H.get (t:=6) d_) HI) (fun a w H HI=>?_);refine st_g 0 H HI rfl rfl d_ d_ rfl d_ d_ (fun hw=>bg_ (.inl rfl) (H.getg (t:=96) d_ hw) HI) (fun a w H HI=>?_);refine st_g 7 H HI rfl rfl d_ d_ rfl d_ d_ (fun hw=>dm_ (f:=3) rfl d_ (H.get (t:=1) d_) HI) (fun a w H HI=>?_);refine st_g 1 H HI rfl rfl d_ d_ rfl d_ d_ (fun hw=>eo_ (f:=3) d_ rfl (H.getg (t:=98) d_ hw) (KC.o _ HI).y3 ⟨_,rfl⟩ HI) (fun a w H HI=>?_);refine st_g 0 H HI rfl rfl d_ d_ rfl d_ d_ (fun hw=>rn_cmp d_ d_ rfl (H.getg (t:=99) d_ hw) ⟨_,rfl⟩ HI) (fun a w H HI=>?_);refine st_g 0 H HI rfl rfl d_ d_ rfl d_ d_ (fun hw=>ca_ rfl (H.getg (t:=97) d_ hw) (fun hc=>(H.getg (t:=100) d_ hc)) (fun _=>⟨_,rfl⟩) HI) (fun a w H HI=>?_);refine st_g 0 H HI rfl rfl d_ d_ rfl d_ d_ (fun hw=>bg_ (.inl rfl) (H.getg (t:=101) d_ hw) HI) (fun a w H HI=>?_);refine st_g 7 H HI rfl rfl d_ d_ rfl d_ d_ (fun hw=>dm_ (f:=3) rfl d_ (H.get (t:=1) d_) HI) (fun a w H HI=>?_);refine st_g 1 H HI rfl rfl d_ d_ rfl d_ d_ (fun hw=>eo_ (f:=3) d_ rfl (H.getg (t:=103) d_ hw) (KC.o _ HI).y3 ⟨_,rfl⟩ HI) (fun a w H HI=>?_);refine st_g 0 H HI rfl rfl d_ d_ rfl d_ d_ (fun hw=>rn_cmp d_ d_ rfl (H.getg (t:=104) d_ hw) ⟨_,rfl⟩ HI) (fun a w H HI=>?_);refine st_g 0 H HI rfl rfl d_ d_ rfl d_ d_ (fun hw=>ca_ rfl (H.getg (t:=102) d_ hw) (fun hc=>(H.getg (t:=105) d_ hc)) (fun _=>⟨_,rfl⟩) HI) (fun a w H HI=>?_);refine st_g 0 H HI rfl rfl d_ d_ rfl d_ d_ (fun hw=>bg_ (.inl rfl) (H.getg (t:=106) d_ hw) HI) (fun a w H HI=>?_);refine st_g 0 H HI rfl rfl d_ d_ rfl d_ d_ (fun hw=>bg_ (.inl rfl) (H.get (t:=6) d_) HI) (fun a w H HI=>?_);refine st_g 0 H HI rfl rfl d_ d_ rfl d_ d_ (fun hw=>rn_not rfl (H.getg (t:=108) d_ hw) HI) (fun a w H HI=>?_);refine st_g 0 H HI rfl rfl d_ d_ rfl d_ d_ (fun hw=>bg_ (.inl rfl) (H.getg (t:=109) d_ hw) HI) (fun a w H HI=>?_);refine st_g 7 H HI rfl rfl d_ d_ rfl d_ d_ (fun hw=>dm_ (f:=3) rfl d_ (H.get (t:=1) d_) HI) (fun a w H HI=>?_)
 refine st_g 1 H HI rfl rfl d_ d_ rfl d_ d_ (fun hw=>eo_ (f:=3) d_ rfl (H.getg (t:=111) d_ hw) (KC.o _ HI).y3 ⟨_,rfl⟩ HI) (fun a w H HI=>?_);refine st_g 0 H HI rfl rfl d_ d_ rfl d_ d_ (fun hw=>rn_cmp d_ d_ rfl (H.getg (t:=112) d_ hw) ⟨_,rfl⟩ HI) (fun a w H HI=>?_);refine st_g 0 H HI rfl rfl d_ d_ rfl d_ d_ (fun hw=>ca_ rfl (H.getg (t:=110) d_ hw) (fun hc=>(H.getg (t:=113) d_ hc)) (fun _=>⟨_,rfl⟩) HI) (fun a w H HI=>?_);refine st_g 0 H HI rfl rfl d_ d_ rfl d_ d_ (fun hw=>ca_ rfl (H.getg (t:=107) d_ hw) (fun _=>⟨_,rfl⟩) (fun hc=>(H.getg (t:=114) d_ hc)) HI) (fun a w H HI=>?_);refine st_u 0 H rfl rfl d_ d_ (ca_ rfl (H.get (t:=95) d_) (fun hc=>(H.getg (t:=115) d_ hc)) (fun _=>⟨_,rfl⟩) HI) (fun a w H HI=>?_);refine st_u 0 H rfl rfl d_ d_ (bg_ (.inl rfl) (H.get (t:=116) d_) HI) (fun a w H HI=>?_);refine st_g 0 H HI rfl rfl d_ d_ rfl d_ d_ (fun hw=>bg_ (.inl rfl) (H.get (t:=7) d_) HI) (fun a w H HI=>?_);refine st_g 0 H HI rfl rfl d_ d_ rfl d_ d_ (fun hw=>bg_ (.inl rfl) (H.getg (t:=118) d_ hw) HI) (fun a w H HI=>?_);refine st_g 0 H HI rfl rfl d_ d_ rfl d_ d_ (fun hw=>bg_ (.inl rfl) (H.get (t:=14) d_) HI) (fun a w H HI=>?_);refine st_g 0 H HI rfl rfl d_ d_ rfl d_ d_ (fun hw=>ca_ rfl (H.getg (t:=119) d_ hw) (fun hc=>(H.getg (t:=120) d_ hc)) (fun _=>⟨_,rfl⟩) HI) (fun a w H HI=>?_);refine st_g 0 H HI rfl rfl d_ d_ rfl d_ d_ (fun hw=>bg_ (.inl rfl) (H.getg (t:=121) d_ hw) HI) (fun a w H HI=>?_);refine st_g 0 H HI rfl rfl d_ d_ rfl d_ d_ (fun hw=>bg_ (.inl rfl) (H.get (t:=7) d_) HI) (fun a w H HI=>?_);refine st_g 0 H HI rfl rfl d_ d_ rfl d_ d_ (fun hw=>rn_not rfl (H.getg (t:=123) d_ hw) HI) (fun a w H HI=>?_);refine st_g 0 H HI rfl rfl d_ d_ rfl d_ d_ (fun hw=>bg_ (.inl rfl) (H.getg (t:=124) d_ hw) HI) (fun a w H HI=>?_);refine st_g 8 H HI rfl rfl d_ d_ rfl d_ d_ (fun hw=>dm_ (f:=4) rfl d_ (H.get (t:=1) d_) HI) (fun a w H HI=>?_);refine st_g 1 H HI rfl rfl d_ d_ rfl d_ d_ (fun hw=>eo_ (f:=4) d_ rfl (H.getg (t:=126) d_ hw) (KC.o _ HI).y4 ⟨_,rfl⟩ HI) (fun a w H HI=>?_);refine st_g 0 H HI rfl rfl d_ d_ rfl d_ d_ (fun hw=>rn_cmp d_ d_ rfl (H.getg (t:=127) d_ hw) ⟨_,rfl⟩ HI) (fun a w H HI=>?_);refine st_g 0 H HI rfl rfl d_ d_ rfl d_ d_ (fun hw=>ca_ rfl (H.getg (t:=125) d_ hw) (fun hc=>(H.getg (t:=128) d_ hc)) (fun _=>⟨_,rfl⟩) HI) (fun a w H HI=>?_);refine st_g 0 H HI rfl rfl d_ d_ rfl d_ d_ (fun hw=>ca_ rfl (H.getg (t:=122) d_ hw) (fun _=>⟨_,rfl⟩) (fun hc=>(H.getg (t:=129) d_ hc)) HI) (fun a w H HI=>?_);refine st_u 0 H rfl rfl d_ d_ (ca_ rfl (H.get (t:=117) d_) (fun hc=>(H.getg (t:=130) d_ hc)) (fun _=>⟨_,rfl⟩) HI) (fun a w H HI=>?_);refine st_u 0 H rfl rfl d_ d_ (bg_ (.inl rfl) (H.get (t:=131) d_) HI) (fun a w H HI=>?_);refine st_g 0 H HI rfl rfl d_ d_ rfl d_ d_ (fun hw=>bg_ (.inl rfl) (H.get (t:=8) d_) HI) (fun a w H HI=>?_);refine st_g 0 H HI rfl rfl d_ d_ rfl d_ d_ (fun hw=>bg_ (.inl rfl) (H.getg (t:=133) d_ hw) HI) (fun a w H HI=>?_);refine st_g 10 H HI rfl rfl d_ d_ rfl d_ d_ (fun hw=>dm_ (f:=6) rfl d_ (H.get (t:=1) d_) HI) (fun a w H HI=>?_)
 refine st_g 3 H HI rfl rfl d_ d_ rfl d_ d_ (fun hw=>eo_ (f:=6) d_ rfl (H.getg (t:=135) d_ hw) (KC.o _ HI).y6 ⟨_,_,_,rfl⟩ HI) (fun a w H HI=>?_);refine st_g 1 H HI rfl rfl d_ d_ rfl d_ d_ (fun hw=>rn_len d_ rfl (H.getg (t:=136) d_ hw) HI) (fun a w H HI=>?_);refine st_g 0 H HI rfl rfl d_ d_ rfl d_ d_ (fun hw=>rn_cmp d_ d_ rfl (H.getg (t:=137) d_ hw) ⟨_,rfl⟩ HI) (fun a w H HI=>?_);refine st_g 0 H HI rfl rfl d_ d_ rfl d_ d_ (fun hw=>ca_ rfl (H.getg (t:=134) d_ hw) (fun _=>⟨_,rfl⟩) (fun hc=>(H.getg (t:=138) d_ hc)) HI) (fun a w H HI=>?_);refine st_u 0 H rfl rfl d_ d_ (ca_ rfl (H.get (t:=132) d_) (fun hc=>(H.getg (t:=139) d_ hc)) (fun _=>⟨_,rfl⟩) HI) (fun a w H HI=>?_);refine st_u 0 H rfl rfl d_ d_ (bg_ (.inl rfl) (H.get (t:=140) d_) HI) (fun a w H HI=>?_);refine st_g 0 H HI rfl rfl d_ d_ rfl d_ d_ (fun hw=>bg_ (.inl rfl) (H.get (t:=9) d_) HI) (fun a w H HI=>?_);refine st_g 0 H HI rfl rfl d_ d_ rfl d_ d_ (fun hw=>bg_ (.inl rfl) (H.getg (t:=142) d_ hw) HI) (fun a w H HI=>?_);refine st_g 11 H HI rfl rfl d_ d_ rfl d_ d_ (fun hw=>dm_ (f:=7) rfl d_ (H.get (t:=1) d_) HI) (fun a w H HI=>?_);refine st_g 3 H HI rfl rfl d_ d_ rfl d_ d_ (fun hw=>eo_ (f:=7) d_ rfl (H.getg (t:=144) d_ hw) (KC.o _ HI).y7 ⟨_,_,_,rfl⟩ HI) (fun a w H HI=>?_);refine st_g 1 H HI rfl rfl d_ d_ rfl d_ d_ (fun hw=>rn_len d_ rfl (H.getg (t:=145) d_ hw) HI) (fun a w H HI=>?_);refine st_g 0 H HI rfl rfl d_ d_ rfl d_ d_ (fun hw=>rn_cmp d_ d_ rfl (H.getg (t:=146) d_ hw) ⟨_,rfl⟩ HI) (fun a w H HI=>?_);refine st_g 0 H HI rfl rfl d_ d_ rfl d_ d_ (fun hw=>ca_ rfl (H.getg (t:=143) d_ hw) (fun _=>⟨_,rfl⟩) (fun hc=>(H.getg (t:=147) d_ hc)) HI) (fun a w H HI=>?_);refine st_u 0 H rfl rfl d_ d_ (ca_ rfl (H.get (t:=141) d_) (fun hc=>(H.getg (t:=148) d_ hc)) (fun _=>⟨_,rfl⟩) HI) (fun a w H HI=>?_);refine st_u 0 H rfl rfl d_ d_ (bg_ (.inr rfl) (H.get (t:=149) d_) HI) (fun a w H HI=>?_);have h2:=H.get (t:=2) (k:=0) d_;obtain ⟨tm,df⟩:=a;obtain rfl:df=[]:=H.df;obtain ⟨x,hx⟩:=h2;have hx:tm.getD 2 undef=.bool x:=hx;refine wpList_nil ?_;go_wp2_with fail;refine bodyPost_ret (results_tmp (by rfl) _ _ _) rfl ?_;rw [hx];exact ⟨⟨_,rfl⟩,HW.o.trans (HI.mono HW.o.size)⟩
end Go.Proofs.YtfolidlmgfhkiaaGreat
