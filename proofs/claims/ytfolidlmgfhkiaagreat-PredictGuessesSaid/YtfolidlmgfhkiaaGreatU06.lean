/- Lemmas on functions of the program, under the conditions that each states. -/
import Derived.Test.YtfolidlmgfhkiaaGreatU05
import Derived.Test.YtfolidlmgfhkiaaGreatU04
set_option linter.unusedVariables false
set_option linter.unusedSimpArgs false
set_option maxRecDepth 100000
set_option maxHeartbeats 8000000
namespace Go.Proofs.YtfolidlmgfhkiaaGreat
open Go.RowKit Go.Proofs.Tryz
theorem fits_any (A:OA) (n c:Nat) (v s:Int) (i:Nat) (l:List In) (x:In) (g:Nat) (w:World) (hs:Sl w w 5 In.cells A n l) (hn:n<=2048) (hx:l[i]?=some x) (hsh:Sl w w 4 shCells (some (a_ g)) 22 shTab) :
  Calls prog 121 #[.agg #[.slice A n c,i_ v,i_ s],i_ i,.slice (some (a_ g)) 22 22] w fun e w'=>RFits l i x e/\Below w w w':=by
 by_cases ho:0<=x.op/\x.op<=21
 ·obtain ⟨k,hk⟩:∃ k:Nat,x.op=k:=⟨x.op.toNat,o_⟩;by_cases h13:k=13
  ·exact fits_13 A n c v s i l x g k w hs hn hx hsh hk o_ h13
  by_cases h10:k=10
  ·exact fits_10 A n c v s i l x g k w hs hn hx hsh hk o_ h10
  exact fits_O A n c v s i l x g k w hs hn hx hsh hk o_ ⟨h13,h10⟩
 have HL:=q_ hs.len;have hin:i<n:=by have:=(e_ hx).1;rw [HL.o] at this;exact this
 have A5:(i:Int)<(n:Int):=by omega
 obtain ⟨ab,ao,rfl,A2,A1⟩:=hs.at_ o_;obtain ⟨W,hW,A0,A4,B0⟩:=af_ w [.slice (some (f_ ab ao)) n c,i_ v,i_ s] 26;have x0:W.cell? ⟨ab,ao+i*5,none⟩=some (i_ x.op):=(belc A0 A2).trans (A1 i x hx 0 _ rfl);have x1:W.cell? ⟨ab,ao+i*5+1,none⟩=some (i_ x.a):=(belc A0 A2).trans (A1 i x hx 1 _ rfl);have x2:W.cell? ⟨ab,ao+i*5+2,none⟩=some (i_ x.b):=(belc A0 A2).trans (A1 i x hx 2 _ rfl);have x3:W.cell? ⟨ab,ao+i*5+3,none⟩=some (i_ x.c):=(belc A0 A2).trans (A1 i x hx 3 _ rfl);have x4:W.cell? ⟨ab,ao+i*5+4,none⟩=some (i_ x.n):=(belc A0 A2).trans (A1 i x hx 4 _ rfl);have d0:=B0.2.1 0 _ rfl;have A3:=q_ A0;have A6:=A0.size;have o1:x.op<0\/21<x.op:=by omega
 clear ho hs A1 hx B0 A0 A4;go_enter func121,ntmps121;go_upto_region 1 with fail;rw [<-hW];clear hW;rcases o1 with o1 | o1
 ·go_wp2;go_ret;exact ⟨rfits_no l i x,(bel A3.o)⟩
 have o2:¬x.op<0:=by omega
 go_wp2;go_ret;exact ⟨rfits_no l i x,(bel A3.o)⟩
def RI (e:Ending):Prop:=∃ n:Int,e=.returned (i_ n)
theorem nodes_step (kd n:Int) (s:ByteArray) (op:Int) (A:OA) (m c:Nat) (left:Int) (w:World) (hm:m<=900000000) (hsz:s.size<=100)
  (hk:∀ k,k<m->∃ (g o:Nat) (kd' n':Int) (s':ByteArray) (op':Int) (A':OA) (m' c':Nat),A=some (f_ g o)/\g<w/\w.cell? ⟨g,o+k*5,none⟩=some (i_ kd')/\w.cell? ⟨g,o+k*5+1,none⟩=some (i_ n')/\w.cell? ⟨g,o+k*5+2,none⟩=some (.string s')/\w.cell? ⟨g,o+k*5+3,none⟩=some (i_ op')/\w.cell? ⟨g,o+k*5+4,none⟩=some (.slice A' m' c') ∧
   ∀ (w':World) (l':Int),Below w w w'->Calls prog 209 #[.agg #[i_ kd',i_ n',.string s',i_ op',.slice A' m' c'],i_ l'] w' fun e w''=>RI e/\Below w' w' w'') :
  Calls prog 209 #[.agg #[i_ kd,i_ n,.string s,i_ op,.slice A m c],i_ left] w fun e w'=>RI e/\Below w w w':=by
 obtain ⟨W,hW,A8,Ac,B0⟩:=af_ w [i_ kd,i_ n,.string s,i_ op,.slice A m c] 209;have KC:=h_ (∀ w',Below W W w'->(w'.cell? (a_ w)=some (i_ kd)/\w'.cell? (f_ w 1)=some (i_ n)/\w'.cell? (f_ w 2)=some (.string s)/\w'.cell? (f_ w 3)=some (i_ op)/\w'.cell? (f_ w 4)=some (.slice A m c))) (fun w' hb =>
  ⟨(B0.below hb).2.1 0 _ rfl,(B0.below hb).2.1 1 _ rfl,(B0.below hb).2.1 2 _ rfl,(B0.below hb).2.1 3 _ rfl,(B0.below hb).2.1 4 _ rfl⟩)
 have HW:=q_ A8;have HS:=q_ hsz;have HK:=q_ hk;obtain ⟨x0,x1,x2,x3,x4⟩:=KC.o W (b_);clear B0 A8 hk hsz;go_enter func209,ntmps209;go_upto_region 1 with fail;rw [<-hW];clear hW;go_wp2_with fail;refine (Name_any op W).mono ?_;rintro e W1 ⟨⟨sx,b6,rfl⟩,A7⟩;have H1:=q_ A7;clear x0 x1 x2 x3 x4 A7;obtain ⟨x0,x1,x2,x3,x4⟩:=KC.o W1 H1.o;go_upto_block 0 with fail;go_cut [7,8,9] (fun nb A6 ok wx=>∃ (b:Bool) (q:Int) (o:Bool),nb=.bool b/\A6=i_ q/\ok=.bool o/\Hid (Below W1 W1 wx))
 case first =>
  by_cases h4:kd=4
  ·subst h4;go_upto_region 13 with fail;have A5:s.toList.isEmpty=true\/s.toList.isEmpty=false:=by cases s.toList.isEmpty;exact .inr rfl;exact .inl rfl
   rcases A5 with hs | hs <;> by_cases hn:(0:Int)<=n
   all_goals
    go_quiet (fail);go_wp2;go_meet;exact ⟨_,_,_,rfl,rfl,rfl,q_ (bel (b_))⟩
  by_cases h6:kd=6
  ·subst h6;go_upto_region 17 with fail;have A5:s.toList.isEmpty=true\/s.toList.isEmpty=false:=by cases s.toList.isEmpty;exact .inr rfl;exact .inl rfl
   rcases A5 with hs | hs <;> by_cases hn:(0:Int)<=n
   all_goals
    go_quiet (fail);go_wp2;go_meet;exact ⟨_,_,_,rfl,rfl,rfl,q_ (bel (b_))⟩
  go_wp2_with (go_at_call 186;refine (Name05_any _ _ HS.o).mono ?_;rintro e w1 ⟨⟨b,rfl⟩,hb⟩;have A3:=q_ hb;clear x0 x1 x2 x3 x4;obtain ⟨x0,x1,x2,x3,x4⟩:=KC.o w1 (H1.o.trans (A3.o.mono H1.o.size)));all_goals
   go_meet;first
    | exact ⟨_,_,_,rfl,rfl,rfl,A3⟩
    | exact ⟨_,_,_,rfl,rfl,rfl,q_ (bel (b_))⟩
 rename World=>wx
 obtain ⟨b7,q8,b9,rfl,rfl,rfl,Ab⟩:=hcut;have HX:=q_ (H1.o.trans (Ab.o.mono H1.o.size));clear x0 x1 x2 x3 x4;obtain ⟨x0,x1,x2,x3,x4⟩:=KC.o wx HX.o;have Ag:(w:Nat)<wx:=by have:=HX.o.size;omega
 go_upto_region 18 with fail;go_cut [114] (fun v wy=>∃ b:Bool,v=.bool b/\Hid (wy=wx))
 case first =>
  cases b9 <;> cases b7
  all_goals
   go_wp2;all_goals
    go_meet;exact ⟨_,rfl,q_ rfl⟩
 case rest =>
 rename World=>wy
 obtain ⟨b,rfl,A9⟩:=hcut;have hw:=A9.o;subst hw;clear A9;cases b
 case true =>
  go_wp2;go_ret;exact ⟨⟨_,rfl⟩,HW.o.trans (HX.o.mono HW.o.size)⟩
 go_upto_region 22 with fail;go_loopw [10,118] (fun q i wr=>∃ (k:Nat) (a:Int),k<=m/\q=i_ a/\i=i_ k/\Hid (Below wy wy wr)) (fun _ i _=>m - (intOf i).toNat)
 case atStart=>exact ⟨0,1,o_,rfl,rfl,q_ (b_)⟩
 obtain ⟨k,a,Ae,rfl,rfl,HR⟩:=hrel;have A2:=q_ (HW.o.trans ((HX.o.trans (HR.o.mono HX.o.size)).mono HW.o.size));have Af:(w:Nat)<=wr:=A2.o.size;have Ah:(wy:Nat)<=wr:=HR.o.size;by_cases hlt:k<m
 ·have A4:(k:Int)<(m:Int):=by omega
  obtain ⟨g,o,kd',n',s',op',A',m',c',rfl,hg,k0,k1,k2,k3,k4,A0⟩:=HK.o k hlt;have Ad:g<wr:=lt_ hg A2.o.size;have A1:∀ j,wr.cell? (f_ g j)=w.cell? (f_ g j):=fun j=>belc A2.o hg
  rw [<-A1] at k0 k1 k2 k3 k4;have Aa:=q_ A0;clear A1 A0 x0 x1 x2 x3 x4;by_cases ha:a<17
  ·go_wp2_with (go_at_call 209;refine (Aa.o _ _ (bel A2.o)).mono ?_;rintro e w1 ⟨⟨r,rfl⟩,hb⟩;have A3:=h_ (Below wy wy w1) (Below.trans (b:=_) (bel HR.o) (hb.mono (by simp <;> (have:=HR.o.size;omega)))));go_roundw
   case rel=>exact ⟨k+1,_,o_,rfl,zc_,A3⟩
   case measure=>exact me_
  go_wp2;go_roundw
  case rel=>exact ⟨k+1,_,o_,rfl,zc_,q_ (bel HR.o)⟩
  case measure=>exact me_
 have A4:¬(k:Int)<(m:Int):=by omega
 go_wp2;go_ret;exact ⟨⟨_,rfl⟩,(bel A2.o)⟩
theorem pE_size {kd n:Int} {s:ByteArray} {op:Int} {A:OA} {m c:Nat} (h:pE [i_ kd,i_ n,.string s,i_ op,.slice A m c]):s.size<=100:=by
 obtain ⟨A0,n',s',A1,A',m',c',e,_,_,hs⟩:=h;injection e with _ e;injection e with _ e;injection e with e _;injection e with e;subst e;exact hs
theorem nodes_any (X:NP) (K:Nat) (hK:K<=900000000):∀ (d:Nat) (vs:VL) (left:Int) (w:World),VTs w X K (be_ d) vs->pE vs->Calls prog 209 #[.agg vs.toArray,i_ left] w fun e w'=>RI e/\Below w w w'
 | 0,vs,left,w,h,hp0=>by
  obtain ⟨kd,n,s,op,A,c,rfl⟩:=h.expr0;exact nodes_step kd n s op A 0 c left w o_ (pE_size hp0) (fun k hk=>o_)
 | d+1,vs,left,w,h,hp0=>by
  obtain ⟨kd,n,s,op,A,m,c,rfl,hp⟩:=h.expr;refine nodes_step kd n s op A m c left w (Nat.le_trans hp.sl.le hK) (pE_size hp0) (fun k hk=>?_);obtain ⟨g,o,us,rfl,hg,hX,hu,A0,hc⟩:=hp.el hk;have A1:=A0;obtain ⟨A2,n',s',A3,A',m',c',rfl,_,_,_⟩:=A0;rw [ee_] at hc;exact ⟨g,o,A2,n',s',A3,A',m',c',rfl,hg,hc 0 _ rfl,hc 1 _ rfl,hc 2 _ rfl,hc 3 _ rfl,hc 4 _ rfl,fun w' l' hb=>nodes_any X K hK d _ l' w' (hu.up (.of_below hb) (l_)) A1⟩
theorem Expr_any (X:NP) (K:Nat) (hK:K<=900000000) (d:Nat) (vs:VL) (w:World) (h:VTs w X K (be_ d) vs) (hp:pE vs):Calls prog 208 #[.agg vs.toArray] w fun e w'=>RB e/\Below w w w':=by
 have HP:=q_ hp;clear hp;obtain ⟨kd,n,s,op,A,m,c,rfl⟩:∃ (kd n:Int) (s:ByteArray) (op:Int) (A:OA) (m c:Nat),vs=[i_ kd,i_ n,.string s,i_ op,.slice A m c]:=by
  cases d with
  | zero=>obtain ⟨kd,n,s,op,A,c,rfl⟩:=h.expr0;exact ⟨kd,n,s,op,A,0,c,rfl⟩
  | succ d=>obtain ⟨kd,n,s,op,A,m,c,rfl,_⟩:=h.expr;exact ⟨kd,n,s,op,A,m,c,rfl⟩
 have H:=q_ h;clear h;go_enter func208,ntmps208;go_wp2_with (go_at_call 209;refine (nodes_any X K hK d _ _ _ (H.o.up (Kp.of_below (bel (b_))) (l_)) HP.o).mono ?_;rintro e w1 ⟨⟨r,rfl⟩,hb⟩;have A0:=h_ (Below w w w1) (Below.trans (b:=_) (bel (b_)) (hb.mono t_)));go_ret;exact ⟨⟨_,rfl⟩,A0.o⟩
def KOk (blk k:Nat) (v:Value):Prop :=
 match k with
 | 0=>∃ x,v=.bool x
 | 1=>∃ n,v=.int .i64 n
 | 2=>∃ x:ByteArray,v=.string x/\x.size<=100
 | 3=>∃ A n c,v=.slice A n c
 | o+4=>v=.pointer (some ⟨blk,o,none⟩)
structure St (N blk:Nat) (G:List (Nat × Nat × Option (Nat × Bool))) (a:Act):Prop where
 sz:a.tmps.size=N
 df:a.defers=[]
 ok:∀ t k g,(t,k,g) ∈ G->(∀ s b,g=some (s,b)->a.tmps.getD s undef=.bool b)->KOk blk k (a.tmps.getD t undef)
theorem St.get {N blk:Nat} {G:List (Nat × Nat × Option (Nat × Bool))} {a:Act} (h:St N blk G a) {t k:Nat} (hm:(t,k,none) ∈ G):KOk blk k (a.eval (.tmp t)):=h.ok t k none hm (fun _ _ h=>by cases h)
theorem St.getg {N blk:Nat} {G:List (Nat × Nat × Option (Nat × Bool))} {a:Act} (h:St N blk G a) {t k s:Nat} {b:Bool} (hm:(t,k,some (s,b)) ∈ G) (hs:a.tmps.getD s undef=.bool b):KOk blk k (a.eval (.tmp t)):=h.ok t k _ hm (fun _ _ h=>by injection h with h;injection h with h1 h2;subst h1 h2;exact hs)
def frs (d:Nat) (G:List (Nat × Nat × Option (Nat × Bool))):Bool:=G.all fun e=>e.1 != d && (match e.2.2 with | none=>true | some (s,_)=>s != d)
theorem getD_put {a:Act} {d t:Nat} {v:Value} (hd:d<a.tmps.size):(a.put (some d) v).tmps.getD t undef=if t=d then v else a.tmps.getD t undef:=by
 show (a.tmps.setIfInBounds d v).getD t undef=_
 rw [Array.getD_eq_getD_getElem?,Array.getElem?_setIfInBounds,Array.getD_eq_getD_getElem?];by_cases h:t=d
 ·subst h;rw [if_pos rfl,if_pos rfl,if_pos hd];rfl
 rw [if_neg (fun e=>h e.symm),if_neg h]
theorem St.put {N blk:Nat} {G:List (Nat × Nat × Option (Nat × Bool))} {a:Act} (h:St N blk G a) {d k:Nat} {g:Option (Nat × Bool)} {v:Value} (hd:d<N) (hf:frs d G=true) (hgd:∀ s b,g=some (s,b)->s≠d) (hv:(∀ s b,g=some (s,b)->a.tmps.getD s undef=.bool b)->KOk blk k v):St N blk ((d,k,g) :: G) (a.put (some d) v):=by
 have A1:d<a.tmps.size:=by rw [h.sz];exact hd
 refine ⟨by show (a.tmps.setIfInBounds d v).size=N;rw [Array.size_setIfInBounds];exact h.sz,h.df,fun t k' g' hm hg=>?_⟩;rcases List.mem_cons.1 hm with he | hm
 ·injection he with e1 e2;injection e2 with e2 e3;subst e1 e2 e3;rw [getD_put A1,if_pos rfl];refine hv (fun s b hs=>?_);have:=hg s b hs
  rwa [getD_put A1,if_neg (hgd s b hs)] at this
 have A0:=List.all_eq_true.1 hf _ hm;simp only [Bool.and_eq_true,bne_iff_ne,ne_eq] at A0;rw [getD_put A1,if_neg A0.1];refine h.ok t k' g' hm (fun s b hs=>?_);have h2:=A0.2;subst hs;have:=hg s b rfl
 rwa [getD_put A1,if_neg wz_] at this
section
variable {P:Program} {ops:Array Oper} {Q:Exit->Act->World->Prop} {rest:List Oper} {o:Oper} {a:Act} {w:World} {N blk d k:Nat} {G:List (Nat × Nat × Option (Nat × Bool))} {Inv:World->Prop}
def Rn (P:Program) (Q:Exit->Act->World->Prop) (blk:Nat) (Inv:World->Prop) (o:Oper) (a:Act) (w:World) (k:Nat):Prop:=∀ K:Act->World->Prop,(∀ v w',KOk blk k v->Inv w'->K (a.put o.dst v) w')->o.wp P a w K Q
theorem st_u (k:Nat) (H:St N blk G a) (hg:o.guard=none) (hd:o.dst=some d) (hN:d<N) (hf:frs d G=true) (hr:Rn P Q blk Inv o a w k) (h:∀ a' w',St N blk ((d,k,none) :: G) a'->Inv w'->wpList P ops Q rest a' w'):wpList P ops Q (o :: rest) a w:=by
 refine wpList_plain hg fun K hK=>hr K (fun v w' hv hi=>hK _ _ ?_)
 rw [hd];exact h _ _ (H.put hN hf (fun _ _ h=>by cases h) (fun _=>hv)) hi
theorem st_g (k:Nat) {j s:Nat} {b:Bool} (H:St N blk G a) (hI:Inv w) (hg:o.guard=some (j,b)) (hj:(ops[j]?).bind (·.dst)=some s) (hs:s<N) (hsd:s≠d) (hd:o.dst=some d) (hN:d<N) (hf:frs d G=true) (hr:a.tmps.getD s undef=.bool b->Rn P Q blk Inv o a w k) (h:∀ a' w',St N blk ((d,k,some (s,b)) :: G) a'->Inv w'->wpList P ops Q rest a' w'):wpList P ops Q (o :: rest) a w:=by
 have hy:yielded ops a.tmps j=some b↔a.tmps.getD s undef=.bool b:=by
  have A0:s<a.tmps.size:=by rw [H.sz];exact hs
  unfold yielded;rw [hj];show (match a.tmps[s]? with | some (.bool b)=>some b | _=>none)=some b↔_
  rw [Array.getD_eq_getD_getElem?,Array.getElem?_eq_getElem A0];simp only [Option.getD_some];cases a.tmps[s] <;> simp
 refine wpList_step fun K hK=>?_
 by_cases hw:a.tmps.getD s undef=.bool b
 ·have:Region.wanted o (yielded ops a.tmps)=true:=by simp [Region.wanted,hg,hy.2 hw]
  rw [if_pos this];refine hr hw K (fun v w' hv hi=>hK _ _ ?_);rw [hd];exact h _ _ (H.put hN hf (fun s' b' e=>by injection e with e;injection e with e1 e2;subst e1;exact hsd) (fun _=>hv)) hi
 have:Region.wanted o (yielded ops a.tmps)=false:=by
  have hne:yielded ops a.tmps j≠some b:=fun e=>hw (hy.1 e)
  simp [Region.wanted,hg];exact hne
 rw [if_neg (by rw [this];decide)];refine hK _ _ ?_;rw [hd];exact h _ _ (H.put hN hf (fun s' b' e=>by injection e with e;injection e with e1 e2;subst e1;exact hsd) (fun hc=>absurd (hc s b rfl) hw)) hI
theorem abs_wp {l:List Oper} (R:Act->World->Prop) (hR:R a w) (h:∀ a w,R a w->wpList P ops Q l a w):wpList P ops Q l a w:=h _ _ hR
theorem St.start (hs:a.tmps.size=N) (hd:a.defers=[]):St N blk [] a:=⟨hs,hd,fun _ _ _ h=>by cases h⟩
theorem St.know (h:St N blk G a) (t:Nat) (hk:KOk blk k (a.tmps.getD t undef)):St N blk ((t,k,none) :: G) a:=⟨h.sz,h.df,fun t' k' g hm hg=>by
 rcases List.mem_cons.1 hm with he | hm
 ·injection he with e1 e2
  injection e2 with e2 e3
  subst e1 e2
  exact hk
 exact h.ok t' k' g hm hg⟩
/- The operations. -/
theorem eo_ {v:Value} (hr:(execOp a.eval o).run P w=.ok (.value v) w) (hv:KOk blk k v) (hI:Inv w):Rn P Q blk Inv o a w k:=fun K hK=>by
 unfold Oper.wp;rw [hr];exact hK _ _ hv hI
theorem bi_ {x:Operand} (ho:o.op=.move x\/o.op=.assign x) (hx:KOk blk k (a.eval x)) (hI:Inv w):Rn P Q blk Inv o a w k:=by
 generalize hr:a.eval=r at hx;refine eo_ (v:=r x) vj_ hx hI
theorem rn_not {x:Operand} {T:TypeId} (ho:o.op=.unOp .not T x) (hx:KOk blk 0 (a.eval x)) (hI:Inv w):Rn P Q blk Inv o a w 0:=by
 obtain ⟨b,hb⟩:=hx;generalize hr:a.eval=r at hb;exact eo_ (v:=.bool (!b)) wj_ ⟨_,rfl⟩ hI
theorem cb_ {c x y:Operand} (ho:o.op=.pick c x y) (hc:KOk blk 0 (a.eval c)) (hx:a.eval c=.bool true->KOk blk k (a.eval x)) (hy:a.eval c=.bool false->KOk blk k (a.eval y)) (hI:Inv w):Rn P Q blk Inv o a w k:=by
 obtain ⟨b,hb⟩:=hc;generalize hr:a.eval=r at hb hx hy;cases b
 ·exact eo_ (v:=r y) wj_ (hy hb) hI
 exact eo_ (v:=r x) wj_ (hx hb) hI
end
section
variable {ops:Array Oper} {Q:Exit->Act->World->Prop} {rest:List Oper} {o:Oper} {a:Act} {w:World} {N blk d k:Nat} {G:List (Nat × Nat × Option (Nat × Bool))} {Inv:World->Prop}
theorem rn_cmp {x y:Operand} {bop:BinOp} {T:TypeId} (hb:bop=.geq\/bop=.lss\/bop=.neq\/bop=.gtr\/bop=.eql) (hT:T=3\/T=2) (ho:o.op=.binOp bop T x y T) (hx:KOk blk 1 (a.eval x)) (hy:KOk blk 1 (a.eval y)) (hI:Inv w):Rn prog Q blk Inv o a w 0:=by
 obtain ⟨m,hm⟩:=hx;obtain ⟨n,hn⟩:=hy;generalize hr:a.eval=r at hm hn;rcases hb with rfl | rfl | rfl | rfl | rfl
 ·exact eo_ (v:=.bool (decide (n<=m))) zs_ ⟨_,rfl⟩ hI
 ·exact eo_ (v:=.bool (decide (m<n))) zs_ ⟨_,rfl⟩ hI
 ·exact eo_ (v:=.bool (m != n)) zs_ ⟨_,rfl⟩ hI
 ·exact eo_ (v:=.bool (decide (n<m))) zs_ ⟨_,rfl⟩ hI
 exact eo_ (v:=.bool (m == n)) zs_ ⟨_,rfl⟩ hI
theorem rn_eqs {x y:Operand} (ho:o.op=.binOp .eql 9 x y 9) (hx:KOk blk 2 (a.eval x)) (hy:KOk blk 2 (a.eval y)) (hI:Inv w):Rn prog Q blk Inv o a w 0:=by
 obtain ⟨m,hm,_⟩:=hx;obtain ⟨n,hn,_⟩:=hy;generalize hr:a.eval=r at hm hn;exact eo_ (v:=.bool (m.toList == n.toList)) (by rw [hr];simp [execOp,ho,hm,hn,go_sem]) ⟨_,rfl⟩ hI
theorem dq_ {x:Operand} {f:Nat} (ho:o.op=.fieldAddr 212 x f) (hf:f<8) (hx:KOk blk 4 (a.eval x)) (hI:Inv w):Rn prog Q blk Inv o a w (f+4):=by
 have hx:a.eval x=.pointer (some (a_ blk)):=hx;generalize hr:a.eval=r at hx;refine eo_ (v:=.pointer (some (f_ blk f))) ?_ rfl hI;rw [hr]
 match f,hf with
 | 0,_=>simp [execOp,ho,hx,go_sem]
 | 1,_=>simp [execOp,ho,hx,go_sem]
 | 2,_=>simp [execOp,ho,hx,go_sem]
 | 3,_=>simp [execOp,ho,hx,go_sem]
 | 4,_=>simp [execOp,ho,hx,go_sem]
 | 5,_=>simp [execOp,ho,hx,go_sem]
 | 6,_=>simp [execOp,ho,hx,go_sem]
 | 7,_=>simp [execOp,ho,hx,go_sem]
theorem es_ {x:Operand} {T:TypeId} {f:Nat} {v:Value} (hT:T=3\/T=2\/T=9\/T=192\/T=207) (ho:o.op=.load T x) (hx:KOk blk (f+4) (a.eval x)) (hc:w.cell? (f_ blk f)=some v) (hv:KOk blk k v) (hI:Inv w):Rn prog Q blk Inv o a w k:=by
 have hx:a.eval x=.pointer (some (f_ blk f)):=hx;generalize hr:a.eval=r at hx;refine eo_ (v:=v) ?_ hv hI;rw [hr];rcases hT with rfl | rfl | rfl | rfl | rfl <;> simp [execOp,ho,hx,hc,go_sem]
theorem rn_len {x:Operand} {T:TypeId} (hT:T=192\/T=207) (ho:o.op=.call { callee:=.builtin .len,args:=#[x],argTypes:=#[T] }) (hx:KOk blk 3 (a.eval x)) (hI:Inv w):Rn prog Q blk Inv o a w 1:=by
 obtain ⟨A,n,c,hn⟩:=hx;generalize hr:a.eval=r at hn;refine eo_ (v:=i_ n) ?_ ⟨_,rfl⟩ hI;rw [hr];rcases hT with rfl | rfl <;> simp [execOp,ho,hn,go_sem]
theorem rn_name {x:Operand} (ho:o.op=.call { callee:=.value (.func 186),args:=#[x],argTypes:=#[9] }) (hx:KOk blk 2 (a.eval x)) (hI:∀ w',Below w w w'->Inv w'):Rn prog Q blk Inv o a w 0:=fun K hK=>by
 obtain ⟨s,hs,hsz⟩:=hx;have A0:(execOp a.eval o).run prog w=.ok (.enter 186 #[.string s]) w:=by
  have hf:a.eval (.func 186)=.func (.func 186) #[] #[]:=rfl;generalize hr:a.eval=r at hs hf;simp [execOp,ho,hs,hf,go_sem]
 unfold Oper.wp;rw [A0];show Calls _ _ _ _ _
 refine (Name05_any s w hsz).mono ?_;rintro e w' ⟨⟨b,rfl⟩,hb⟩;exact hK _ _ ⟨b,rfl⟩ (hI w' hb)
end
structure StB (w:World) (b:Nat) (kd:Int) (s f:ByteArray) (n op:Int) (A B C:OA) (m c m1 c1 m2 c2:Nat):Prop where
 y0:w.cell? (a_ b)=some (i_ kd)
 y1:w.cell? (f_ b 1)=some (.string s)
 y2:w.cell? (f_ b 2)=some (.string f)
 y3:w.cell? (f_ b 3)=some (i_ n)
 y4:w.cell? (f_ b 4)=some (i_ op)
 y5:w.cell? (f_ b 5)=some (.slice A m c)
 y6:w.cell? (f_ b 6)=some (.slice B m1 c1)
 y7:w.cell? (f_ b 7)=some (.slice C m2 c2)
theorem num_m (n:Int) (w:World):Calls prog 118 #[i_ n] w fun e w'=>e=.returned (.agg #[i_ 1,i_ n,.string ⟨#[]⟩,i_ 0,.slice none 0 0])/\Below w w w':=by
 obtain ⟨W,hW,A0,A1,B0⟩:=af_ w [i_ 0,i_ 0,.string ⟨#[]⟩,i_ 0,.slice none 0 0] 209;have HB:=q_ B0;have HW:=q_ A0;have z0:=B0.2.1 0 _ rfl;have z1:=B0.2.1 1 _ rfl;have z2:=B0.2.1 2 _ rfl;have z3:=B0.2.1 3 _ rfl;have z4:=B0.2.1 4 _ rfl;have zf:=B0.2.2;have hz:(w:Nat)<W:=by omega
 clear B0 A0 A1;go_enter func118,ntmps118;go_upto_region 1 with fail;rw [<-hW];clear hW;go_wp2;refine retC results118 zd_ underlying209 rfl k_ (cs:=[_,_,_,_,_]) (((((HB.o.set 0 _).set 1 _).set 2 _).set 3 _).set 4 _).whole rfl ?_;exact ⟨rfl,(bel HW.o)⟩
theorem name_m (s:ByteArray) (w:World):Calls prog 119 #[.string s] w fun e w'=>e=.returned (.agg #[i_ 3,i_ 0,.string s,i_ 0,.slice none 0 0])/\Below w w w':=by
 obtain ⟨W,hW,A0,A1,B0⟩:=af_ w [i_ 0,i_ 0,.string ⟨#[]⟩,i_ 0,.slice none 0 0] 209;have HB:=q_ B0;have HW:=q_ A0;have z0:=B0.2.1 0 _ rfl;have z1:=B0.2.1 1 _ rfl;have z2:=B0.2.1 2 _ rfl;have z3:=B0.2.1 3 _ rfl;have z4:=B0.2.1 4 _ rfl;have zf:=B0.2.2;have hz:(w:Nat)<W:=by omega
 clear B0 A0 A1;go_enter func119,ntmps119;go_upto_region 1 with fail;rw [<-hW];clear hW;go_wp2;refine retC results119 zd_ underlying209 rfl k_ (cs:=[_,_,_,_,_]) (((((HB.o.set 0 _).set 1 _).set 2 _).set 3 _).set 4 _).whole rfl ?_;exact ⟨rfl,(bel HW.o)⟩
theorem names_m (w:World):Calls prog 167 #[] w fun e w'=>e=.returned (.slice (some (a_ w)) 5 5)/\(w':Nat)=w+1/\Below w w w'/\∀ i,i<5->∃ s:ByteArray,w'.cell? (f_ w i)=some (.string s)/\s.size<=100:=by
 go_enter func167,ntmps167;go_wp2;go_ret;refine ⟨rfl,zm_,(b_).alloc (l_) _,fun i hi=>?_⟩
 match i,hi with
 | 0,_=>exact ⟨_,zh_,d_⟩
 | 1,_=>exact ⟨_,zh_,d_⟩
 | 2,_=>exact ⟨_,zh_,d_⟩
 | 3,_=>exact ⟨_,zh_,d_⟩
 | 4,_=>exact ⟨_,zh_,d_⟩
theorem Bx.new' {w:World} {b:Nat} (cs:VL) (t:TypeId) (hb:w=b):Bx (w.alloc (.cells cs.toArray t)) b cs:=by subst hb;exact Bx.new w cs t
def ExV (w:World) (X:NP) (d:Nat) (kd n:Int) (s:ByteArray) (op:Int) (A:OA) (m c:Nat):Prop:=VTs w X 20 (be_ d) (exL kd n s op A m c)/\pE (exL kd n s op A m c)
theorem bin_m (X:NP) (d:Nat) (op kd n:Int) (s:ByteArray) (o:Int) (A:OA) (m c:Nat) (kd' n':Int) (s':ByteArray) (o':Int) (A':OA) (m' c':Nat) (w:World) (h1:ExV w X d kd n s o A m c) (h2:ExV w X d kd' n' s' o' A' m' c') (hX:∀ k,X k->k<w) :
  Calls prog 117 #[i_ op,.agg #[i_ kd,i_ n,.string s,i_ o,.slice A m c],.agg #[i_ kd',i_ n',.string s',i_ o',.slice A' m' c']] w fun e w'=>RE X (d+1) e w'/\Below w w w':=by
 obtain ⟨W,hW,A1,A2,B0,B1,B2⟩:=dw_ w (exL kd n s o A m c) 209 (exL kd' n' s' o' A' m' c') 209 [i_ 0,i_ 0,.string ⟨#[]⟩,i_ 0,.slice none 0 0] 209;have HB:=h_ (Bx W (w+1+1) _) B2;have HW:=q_ A1;have H1:=q_ h1.1;have H2:=q_ h2.1;have P1:=q_ h1.2;have P2:=q_ h2.2;have HX:=h_ (¬X W) (fun h=>by have:=hX _ h;omega);have hz:(w:Nat)+2<W:=by omega
 have A4:¬(w:Nat)+1+1=W:=by omega
 have A0:W=((w.alloc (.cells #[i_ kd,i_ n,.string s,i_ o,.slice A m c] 209)).alloc (.cells #[i_ kd',i_ n',.string s',i_ o',.slice A' m' c'] 209)).alloc (.cells #[i_ 0,i_ 0,.string ⟨#[]⟩,i_ 0,.slice none 0 0] 209):=hW;have x0:=B0.2.1 0 _ rfl;have x1:=B0.2.1 1 _ rfl;have x2:=B0.2.1 2 _ rfl;have x3:=B0.2.1 3 _ rfl;have x4:=B0.2.1 4 _ rfl;have y0:=B1.2.1 0 _ rfl;have y1:=B1.2.1 1 _ rfl;have y2:=B1.2.1 2 _ rfl;have y3:=B1.2.1 3 _ rfl;have y4:=B1.2.1 4 _ rfl;have z0:W.cell? ⟨w+1+1,0,none⟩=some (i_ 0):=B2.2.1 0 _ rfl;have z1:W.cell? ⟨w+1+1,1,none⟩=some (i_ 0):=B2.2.1 1 _ rfl;have z2:W.cell? ⟨w+1+1,2,none⟩=some (.string ⟨#[]⟩):=B2.2.1 2 _ rfl;have z3:W.cell? ⟨w+1+1,3,none⟩=some (i_ 0):=B2.2.1 3 _ rfl;have z4:W.cell? ⟨w+1+1,4,none⟩=some (.slice none 0 0):=B2.2.1 4 _ rfl;have zf:∀ j,W.frozen? ⟨w+1+1,j,none⟩=false:=B2.2.2;have A3:(w:Nat)+1+1<W:=by omega
 clear B0 B1 B2 A1 h1 h2 hX hW A2;go_enter func117,ntmps117;go_upto_region 1 with fail;rw [<-A0];clear A0;go_wp2;refine retC results117 zd_ underlying209 rfl k_ (cs:=[_,_,_,_,_]) ((((((HB.o.set 0 _).set 1 _).set 2 _).set 3 _).set 4 _).alloc _).whole rfl ?_;have hb:Below w w ((((((W.setCell ⟨w+1+1,0,none⟩ (i_ 5)).setCell ⟨w+1+1,1,none⟩ (i_ 0)).setCell ⟨w+1+1,2,none⟩ (.string ⟨#[]⟩)).setCell ⟨w+1+1,3,none⟩ (i_ op)).setCell ⟨w+1+1,4,none⟩ (.slice (some (a_ W)) 2 2)).alloc (.cells (exL kd n s o A m c ++ exL kd' n' s' o' A' m' c').toArray 209)):=(bel HW.o);refine ⟨⟨_,_,_,_,_,_,_,rfl,q_ ⟨vts_ex (SlP.two (us:=exL kd n s o A m c) (vs:=exL kd' n' s' o' A' m' c') (Bx.new' (exL kd n s o A m c ++ exL kd' n' s' o' A' m' c') 209 t_) HX.o d_ (H1.o.up (Kp.of_below hb) (l_)) P1.o (H2.o.up (Kp.of_below hb) (l_)) P2.o),pE_ex x_ (fun _=>l_) d_⟩⟩,hb⟩
theorem set_m (X:NP) (t:ByteArray) (kd n:Int) (s:ByteArray) (o:Int) (A:OA) (m c:Nat) (w:World) (ht:t.size<=100) (h1:ExV w X dE kd n s o A m c) (hX:∀ k,X k->k<w) :
  Calls prog 116 #[.string t,.agg #[i_ kd,i_ n,.string s,i_ o,.slice A m c]] w fun e w'=>RS X 0 e w'/\Below w w w':=by
 obtain ⟨W,hW,A1,A2,B0,B2⟩:=cn_ w (exL kd n s o A m c) 209 [i_ 0,.string ⟨#[]⟩,.string ⟨#[]⟩,i_ 0,i_ 0,.slice none 0 0,.slice none 0 0,.slice none 0 0] 212;have HB:=q_ B2;have HW:=q_ A1;have H1:=q_ h1.1;have P1:=q_ h1.2;have HX:=h_ (¬X W) (fun h=>by have:=hX _ h;omega);have hz:(w:Nat)+1<W:=by omega
 have A3:¬(w:Nat)+1=W:=by omega
 have A0:W=(w.alloc (.cells #[i_ kd,i_ n,.string s,i_ o,.slice A m c] 209)).alloc (.cells #[i_ 0,.string ⟨#[]⟩,.string ⟨#[]⟩,i_ 0,i_ 0,.slice none 0 0,.slice none 0 0,.slice none 0 0] 212):=hW;have HT:=q_ ht;have x0:=B0.2.1 0 _ rfl;have x1:=B0.2.1 1 _ rfl;have x2:=B0.2.1 2 _ rfl;have x3:=B0.2.1 3 _ rfl;have x4:=B0.2.1 4 _ rfl;have z0:=B2.2.1 0 _ rfl;have z1:=B2.2.1 1 _ rfl;have z2:=B2.2.1 2 _ rfl;have z3:=B2.2.1 3 _ rfl;have z4:=B2.2.1 4 _ rfl;have z5:=B2.2.1 5 _ rfl;have z6:=B2.2.1 6 _ rfl;have z7:=B2.2.1 7 _ rfl;have zf:=B2.2.2;clear B0 B2 A1 h1 hX hW A2 ht;go_enter func116,ntmps116;go_upto_region 1 with fail;rw [<-A0];clear A0;go_wp2;refine retC results116 zd_ underlying212 rfl k_ (cs:=[_,_,_,_,_,_,_,_]) (((((((((HB.o.set 0 _).set 1 _).set 2 _).set 3 _).set 4 _).set 5 _).set 6 _).set 7 _).alloc _).whole rfl ?_;have hb:Below w w (((((((((W.setCell (a_ (w+1)) (i_ 1)).setCell (f_ (w+1) 1) (.string t)).setCell (f_ (w+1) 2) (.string ⟨#[]⟩)).setCell (f_ (w+1) 3) (i_ 0)).setCell (f_ (w+1) 4) (i_ 0)).setCell (f_ (w+1) 5) (.slice (some (a_ W)) 1 1)).setCell (f_ (w+1) 6) (.slice none 0 0)).setCell (f_ (w+1) 7) (.slice none 0 0)).alloc (.cells (exL kd n s o A m c).toArray 209)):=(bel HW.o);refine ⟨⟨_,_,_,_,_,_,_,_,_,_,_,_,_,_,rfl,q_ ⟨eg_ (SlP.one (Bx.new' (exL kd n s o A m c) 209 t_) HX.o d_ (H1.o.up (Kp.of_below hb) (l_)) P1.o),pS_st x_ x_ x_ HT.o d_⟩⟩,hb⟩
end Go.Proofs.YtfolidlmgfhkiaaGreat
namespace Go.Proofs.YtfolidlmgfhkiaaGreat
open Go.RowKit
def Dd (d:Nat) (w w':World):Prop:=(w':Nat)=w/\Kp (fun k=>k=d) w w'
theorem Dd.refl (d:Nat) (w:World):Dd d w w:=⟨rfl,Kp.refl _ _⟩
theorem Dd.trans {d:Nat} {w w' w2:World} (h:Dd d w w') (h2:Dd d w' w2):Dd d w w2:=⟨h2.1.trans h.1,h.2.trans h2.2⟩
theorem Fr.dice {X Y:NP} {L:List LV} {C:Nat->VL} {w0 w:World} {d:Nat} (h:Fr X (fun _=>False) w0 L Y C w) (hD:Dice w0 d):Dice w d:=hD.below h.below
theorem Dice.back {w0 w:World} {d:Nat} (h:Dice w d) (hk:Kp (fun _=>False) w0 w) (hd:d<w0):Dice w0 d:=by
 obtain ⟨_,S,sn,sc,a,h0,h1,h2,h3,h4,h5⟩:=h;refine ⟨hd,S,sn,sc,a,(hk.cell hd (fun h=>h)).symm.trans h0,(hk.cell hd (fun h=>h)).symm.trans h1,(hk.frozen hd (fun h=>h)).symm.trans h2,h3,h4,fun i hi=>?_⟩;obtain ⟨sb,so,x,e,h6,h7,h8,h9⟩:=h5 i hi;exact ⟨sb,so,x,e,h6,h7,h8,(hk.cell o_ (fun h=>h)).symm.trans h9⟩
theorem Fr.kpd {X Y:NP} {L:List LV} {C:Nat->VL} {w0 w w':World} {d:Nat} (h:Fr X (fun _=>False) w0 L Y C w) (hd:d<w0) (hX:X d) (hk:w.grownBy w' (some d)) :
  (∃ w0',Dd d w0 w0'/\Fr X (fun _=>False) w0' L Y C w')/\Up w Y w' Y:=by
 have A0:Kp (fun k=>k=d) w w':=(Kp.refl _ w).grown hk (fun k hk=>by injection hk with hk;exact .inl hk.symm);have A4:Kp Y w w':=A0.mono (fun k _ hk=>by subst hk;exact h.sub _ hX);have A2:Up w Y w' Y:=⟨A4,fun _ _ h=>h⟩;have A3:d<w:=lt_ hd h.kp.size;have A1:d<w':=lt_ A3 hk.size;have hb:∀ p ∈ L,p.b≠d:=fun p hp=>by
  rcases (h.blk p hp).2.1 with h1 | h1
  ·omega
  exact h1.elim
 refine ⟨⟨{ w0 with heap:=w0.heap.setIfInBounds d w'.heap[d] },⟨zm_,⟨rfl,rfl,rfl,zm_,fun k hk hx=>by simp only [Array.getElem?_setIfInBounds];rw [if_neg (fun e=>hx e.symm)]⟩⟩,⟨?_,h.sub,fun k hk=>lt_ (h.lt k hk) A0.size,fun p hp=>?_,fun p hp j t hj ho=>?_,fun p hp j t et hj ho=>?_,h.far,h.nd⟩⟩,A2⟩
 ·refine ⟨A0.os.trans h.kp.os,A0.tape.trans h.kp.tape,A0.output.trans h.kp.output,by simpa using Nat.le_trans h.kp.size A0.size,fun k hk hx=>?_⟩;have hk:k<w0:=by simpa using hk
  show _=(w0.heap.setIfInBounds d w'.heap[d])[k]?
  rw [Array.getElem?_setIfInBounds];by_cases e:d=k
  ·subst e;rw [if_pos rfl,if_pos hk];exact Array.getElem?_eq_getElem A1
  rw [if_neg e];exact (A0.block k (lt_ hk h.kp.size) (fun e2=>e e2.symm)).trans (h.kp.block k hk (fun h=>h))
 ·obtain ⟨h1,h2,h3,h4⟩:=h.blk p hp;exact ⟨h1,wz_,h3.kp A0 (hb p hp),h4⟩
 ·obtain ⟨v,h1,h2⟩:=h.val p hp j t hj ho;exact ⟨v,h1,h2.go A2 (l_)⟩
 obtain ⟨e,A,n,c,h1,h2,h3,h4,h5⟩:=h.row p hp j t et hj ho;refine ⟨e,A,n,c,h1,h2,h3,h4.stay hk (fun k hk=>?_),fun g hg=>⟨(h5 g hg).1,by simpa using (h5 g hg).2.1,(h5 g hg).2.2⟩⟩;injection hk with hk;subst hk;refine ⟨h.sub _ hX,fun e=>?_⟩;rcases (h5 _ e).2.1 with h6 | h6
 ·omega
 exact h6.elim
structure Rd (d:Nat) (w w':World):Prop where
 dice:Dice w' d
 kp:Kp (fun k=>k=d) w w'
theorem Rd.thrown {d:Nat} {w w':World} (h:Rd d w w'):cf_ w d w':=⟨h.dice,⟨h.kp.os,h.kp.tape,h.kp.output,h.kp.size,fun k hk hr=>h.kp.block k hk (fun e=>hr x3_)⟩⟩
theorem Rd.trans {d:Nat} {w w' w2:World} (h:Rd d w w') (h2:Rd d w' w2):Rd d w w2:=⟨h2.dice,h.kp.trans h2.kp⟩
theorem Rd.below {d:Nat} {w w' w2:World} (h:Rd d w w') (hb:Below w' w' w2):Rd d w w2:=⟨h.dice.below hb,h.kp.ba_ hb⟩
def Fs (d:Nat) (X:NP) (w:World) (L:List LV) (Y:NP) (C:Nat->VL) (w':World):Prop:=∃ w0,Dd d w w0/\Dice w0 d/\Fr X (fun _=>False) w0 L Y C w'
theorem Fr.fs {X Y:NP} {L:List LV} {C:Nat->VL} {w w':World} {d:Nat} (h:Fr X (fun _=>False) w L Y C w') (hD:Dice w d):Fs d X w L Y C w':=⟨w,Dd.refl d w,hD,h⟩
section
variable {X Y:NP} {L:List LV} {C:Nat->VL} {w w1 w2:World} {d:Nat}
theorem Fs.dice (h:Fs d X w L Y C w1):Dice w1 d:=by
 obtain ⟨w0,h1,h2,h3⟩:=h;exact h3.dice h2
theorem Fs.pick (h:Fs d X w L Y C w1) (hX:X d) (ht:cf_ w1 d w2):Fs d X w L Y C w2/\Up w1 Y w2 Y:=by
 obtain ⟨w0,h1,h2,h3⟩:=h;obtain ⟨⟨A0,h4,h5⟩,h6⟩:=h3.kpd h2.lt hX ht.grown;refine ⟨⟨A0,h1.trans h4,ht.dice.back h5.kp ?_,h5⟩,h6⟩;rw [h4.1];exact h2.lt
theorem Fs.rd (h:Fs d X w L Y C w1) (hX:X d) (ht:Rd d w1 w2):Fs d X w L Y C w2/\Up w1 Y w2 Y:=h.pick hX ht.thrown
theorem Fs.end_ (h:Fs d X w L Y C w1):Rd d w w1:=by
 obtain ⟨w0,h1,h2,h3⟩:=h;exact ⟨h3.dice h2,h1.2.trans (h3.kp.mono (fun k _ hk=>hk.elim))⟩
theorem Fs.map {L':List LV} {Y':NP} {C':Nat->VL} (h:Fs d X w L Y C w1) (f:∀ w0,w0.heap.size=w.heap.size->Fr X (fun _=>False) w0 L Y C w1->Fr X (fun _=>False) w0 L' Y' C' w2):Fs d X w L' Y' C' w2:=by
 obtain ⟨w0,h1,h2,h3⟩:=h;exact ⟨w0,h1,h2,f w0 h1.1 h3⟩
theorem Fs.call (h:Fs d X w L Y C w1) (hb:Below w1.heap.size w1 w2):Fs d X w L Y C w2:=h.map (fun _ _ f=>f.call hb)
end
end Go.Proofs.YtfolidlmgfhkiaaGreat
