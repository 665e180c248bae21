/- Lemmas on functions of the program, under the conditions that each states. -/
import Derived.Test.YtfolidlmgfhkiaaGreatV06
import Derived.Test.YtfolidlmgfhkiaaGreatV05
set_option linter.unusedVariables false
set_option linter.unusedSimpArgs false
set_option maxRecDepth 100000
set_option maxHeartbeats 8000000
namespace Go.Proofs.YtfolidlmgfhkiaaGreat
open Go.RowKit Go.Proofs.Tryz
theorem fits_any (A:OA) (n c:Nat) (v s:Int) (i:Nat) (l:List In) (x:In) (g:Nat) (w:World) (hs:Sl w w 5 In.cells A n l) (hn:n<=2048) (hx:l[i]?=some x) (hsh:Sl w w 4 shCells (some (a_ g)) 22 shTab) :
  Calls prog 121 #[.agg #[.slice A n c,i_ v,i_ s],i_ i,.slice (some (a_ g)) 22 22] w fun e w'=>RFits l i x e/\Below w w w':=by
 by_cases ho:0<=x.op/\x.op<=21
 ·obtain ⟨k,hk⟩:∃ k:Nat,x.op=k:=⟨x.op.toNat,o_⟩;by_cases h13:k=13
  ·exact fits_13 A n c v s i l x g k w hs hn hx hsh hk o_ h13
  by_cases h10:k=10
  ·exact fits_10 A n c v s i l x g k w hs hn hx hsh hk o_ h10
  exact fits_O A n c v s i l x g k w hs hn hx hsh hk o_ ⟨h13,h10⟩
 have HL:=q_ hs.len;have hin:i<n:=by have:=(e_ hx).1;rw [HL.o] at this;exact this
 have A5:(i:Int)<(n:Int):=by omega
 obtain ⟨ab,ao,rfl,A2,A1⟩:=hs.at_ o_;obtain ⟨W,hW,A0,A4,B0⟩:=af_ w [.slice (some (f_ ab ao)) n c,i_ v,i_ s] 26;have x0:W.cell? ⟨ab,ao+i*5,none⟩=some (i_ x.op):=(belc A0 A2).trans (A1 i x hx 0 _ rfl);have x1:W.cell? ⟨ab,ao+i*5+1,none⟩=some (i_ x.a):=(belc A0 A2).trans (A1 i x hx 1 _ rfl);have x2:W.cell? ⟨ab,ao+i*5+2,none⟩=some (i_ x.b):=(belc A0 A2).trans (A1 i x hx 2 _ rfl);have x3:W.cell? ⟨ab,ao+i*5+3,none⟩=some (i_ x.c):=(belc A0 A2).trans (A1 i x hx 3 _ rfl);have x4:W.cell? ⟨ab,ao+i*5+4,none⟩=some (i_ x.n):=(belc A0 A2).trans (A1 i x hx 4 _ rfl);have d0:=B0.2.1 0 _ rfl;have A3:=q_ A0;have A6:=A0.size;have o1:x.op<0\/21<x.op:=by omega
 clear ho hs A1 hx B0 A0 A4;go_enter func121,ntmps121;go_upto_region 1 with fail;rw [<-hW];clear hW;rcases o1 with o1 | o1
 ·go_wp2;go_ret;exact ⟨rfits_no l i x,(bel A3.o)⟩
 have o2:¬x.op<0:=by omega
 go_wp2;go_ret;exact ⟨rfits_no l i x,(bel A3.o)⟩
def RI (e:Ending):Prop:=∃ n:Int,e=.returned (i_ n)
theorem nodes_step (kd n:Int) (s:ByteArray) (op:Int) (A:OA) (m c:Nat) (left:Int) (w:World) (hm:m<=900000000) (hsz:s.size<=100)
  (hk:∀ k,k<m->∃ (g o:Nat) (kd' n':Int) (s':ByteArray) (op':Int) (A':OA) (m' c':Nat),A=some (f_ g o)/\g<w/\w.cell? ⟨g,o+k*5,none⟩=some (i_ kd')/\w.cell? ⟨g,o+k*5+1,none⟩=some (i_ n')/\w.cell? ⟨g,o+k*5+2,none⟩=some (.string s')/\w.cell? ⟨g,o+k*5+3,none⟩=some (i_ op')/\w.cell? ⟨g,o+k*5+4,none⟩=some (.slice A' m' c') ∧
   ∀ (w':World) (l':Int),Below w w w'->Calls prog 209 #[.agg #[i_ kd',i_ n',.string s',i_ op',.slice A' m' c'],i_ l'] w' fun e w''=>RI e/\Below w' w' w'') :
  Calls prog 209 #[.agg #[i_ kd,i_ n,.string s,i_ op,.slice A m c],i_ left] w fun e w'=>RI e/\Below w w w':=by
 obtain ⟨W,hW,A8,Ac,B0⟩:=af_ w [i_ kd,i_ n,.string s,i_ op,.slice A m c] 209;have KC:=h_ (∀ w',Below W W w'->(w'.cell? (a_ w)=some (i_ kd)/\w'.cell? (f_ w 1)=some (i_ n)/\w'.cell? (f_ w 2)=some (.string s)/\w'.cell? (f_ w 3)=some (i_ op)/\w'.cell? (f_ w 4)=some (.slice A m c))) (fun w' hb =>
  ⟨(B0.below hb).2.1 0 _ rfl,(B0.below hb).2.1 1 _ rfl,(B0.below hb).2.1 2 _ rfl,(B0.below hb).2.1 3 _ rfl,(B0.below hb).2.1 4 _ rfl⟩)
 have HW:=q_ A8;have HS:=q_ hsz;have HK:=q_ hk;obtain ⟨x0,x1,x2,x3,x4⟩:=KC.o W (b_);clear B0 A8 hk hsz;go_enter func209,ntmps209;go_upto_region 1 with fail;rw [<-hW];clear hW;go_wp2_with fail;refine (Name_any op W).mono ?_;rintro e W1 ⟨⟨sx,b6,rfl⟩,A7⟩;have H1:=q_ A7;clear x0 x1 x2 x3 x4 A7;obtain ⟨x0,x1,x2,x3,x4⟩:=KC.o W1 H1.o;go_upto_block 0 with fail;go_cut [7,8,9] (fun nb A6 ok wx=>∃ (b:Bool) (q:Int) (o:Bool),nb=.bool b/\A6=i_ q/\ok=.bool o/\Hid (Below W1 W1 wx))
 case first =>
  by_cases h4:kd=4
  ·subst h4;go_upto_region 13 with fail;have A5:s.toList.isEmpty=true\/s.toList.isEmpty=false:=by cases s.toList.isEmpty;exact .inr rfl;exact .inl rfl
   rcases A5 with hs | hs <;> by_cases hn:(0:Int)<=n
   all_goals
    go_quiet (fail);go_wp2;go_meet;exact ⟨_,_,_,rfl,rfl,rfl,q_ (bel (b_))⟩
  by_cases h6:kd=6
  ·subst h6;go_upto_region 17 with fail;have A5:s.toList.isEmpty=true\/s.toList.isEmpty=false:=by cases s.toList.isEmpty;exact .inr rfl;exact .inl rfl
   rcases A5 with hs | hs <;> by_cases hn:(0:Int)<=n
   all_goals
    go_quiet (fail);go_wp2;go_meet;exact ⟨_,_,_,rfl,rfl,rfl,q_ (bel (b_))⟩
  go_wp2_with (go_at_call 186;refine (Name05_any _ _ HS.o).mono ?_;rintro e w1 ⟨⟨b,rfl⟩,hb⟩;have A3:=q_ hb;clear x0 x1 x2 x3 x4;obtain ⟨x0,x1,x2,x3,x4⟩:=KC.o w1 (H1.o.trans (A3.o.mono H1.o.size)));all_goals
   go_meet;first
    | exact ⟨_,_,_,rfl,rfl,rfl,A3⟩
    | exact ⟨_,_,_,rfl,rfl,rfl,q_ (bel (b_))⟩
 rename World=>wx
 obtain ⟨b7,q8,b9,rfl,rfl,rfl,Ab⟩:=hcut;have HX:=q_ (H1.o.trans (Ab.o.mono H1.o.size));clear x0 x1 x2 x3 x4;obtain ⟨x0,x1,x2,x3,x4⟩:=KC.o wx HX.o;have Ag:(w:Nat)<wx:=by have:=HX.o.size;omega
 go_upto_region 18 with fail;go_cut [114] (fun v wy=>∃ b:Bool,v=.bool b/\Hid (wy=wx))
 case first =>
  cases b9 <;> cases b7
  all_goals
   go_wp2;all_goals
    go_meet;exact ⟨_,rfl,q_ rfl⟩
 case rest =>
 rename World=>wy
 obtain ⟨b,rfl,A9⟩:=hcut;have hw:=A9.o;subst hw;clear A9;cases b
 case true =>
  go_wp2;go_ret;exact ⟨⟨_,rfl⟩,HW.o.trans (HX.o.mono HW.o.size)⟩
 go_upto_region 22 with fail;go_loopw [10,118] (fun q i wr=>∃ (k:Nat) (a:Int),k<=m/\q=i_ a/\i=i_ k/\Hid (Below wy wy wr)) (fun _ i _=>m - (intOf i).toNat)
 case atStart=>exact ⟨0,1,o_,rfl,rfl,q_ (b_)⟩
 obtain ⟨k,a,Ae,rfl,rfl,HR⟩:=hrel;have A2:=q_ (HW.o.trans ((HX.o.trans (HR.o.mono HX.o.size)).mono HW.o.size));have Af:(w:Nat)<=wr:=A2.o.size;have Ah:(wy:Nat)<=wr:=HR.o.size;by_cases hlt:k<m
 ·have A4:(k:Int)<(m:Int):=by omega
  obtain ⟨g,o,kd',n',s',op',A',m',c',rfl,hg,k0,k1,k2,k3,k4,A0⟩:=HK.o k hlt;have Ad:g<wr:=lt_ hg A2.o.size;have A1:∀ j,wr.cell? (f_ g j)=w.cell? (f_ g j):=fun j=>belc A2.o hg
  rw [<-A1] at k0 k1 k2 k3 k4;have Aa:=q_ A0;clear A1 A0 x0 x1 x2 x3 x4;by_cases ha:a<17
  ·go_wp2_with (go_at_call 209;refine (Aa.o _ _ (bel A2.o)).mono ?_;rintro e w1 ⟨⟨r,rfl⟩,hb⟩;have A3:=h_ (Below wy wy w1) (Below.trans (b:=_) (bel HR.o) (hb.mono (by simp <;> (have:=HR.o.size;omega)))));go_roundw
   case rel=>exact ⟨k+1,_,o_,rfl,zb_,A3⟩
   case measure=>exact me_
  go_wp2;go_roundw
  case rel=>exact ⟨k+1,_,o_,rfl,zb_,q_ (bel HR.o)⟩
  case measure=>exact me_
 have A4:¬(k:Int)<(m:Int):=by omega
 go_wp2;go_ret;exact ⟨⟨_,rfl⟩,(bel A2.o)⟩
theorem pE_size {kd n:Int} {s:ByteArray} {op:Int} {A:OA} {m c:Nat} (h:pE [i_ kd,i_ n,.string s,i_ op,.slice A m c]):s.size<=100:=by
 obtain ⟨A0,n',s',A1,A',m',c',e,_,_,hs⟩:=h;injection e with _ e;injection e with _ e;injection e with e _;injection e with e;subst e;exact hs
theorem nodes_any (X:NP) (K:Nat) (hK:K<=900000000):∀ (d:Nat) (vs:VL) (left:Int) (w:World),VTs w X K (ay_ d) vs->pE vs->Calls prog 209 #[.agg vs.toArray,i_ left] w fun e w'=>RI e/\Below w w w'
 | 0,vs,left,w,h,hp0=>by
  obtain ⟨kd,n,s,op,A,c,rfl⟩:=h.expr0;exact nodes_step kd n s op A 0 c left w o_ (pE_size hp0) (fun k hk=>o_)
 | d+1,vs,left,w,h,hp0=>by
  obtain ⟨kd,n,s,op,A,m,c,rfl,hp⟩:=h.expr;refine nodes_step kd n s op A m c left w (Nat.le_trans hp.sl.le hK) (pE_size hp0) (fun k hk=>?_);obtain ⟨g,o,us,rfl,hg,hX,hu,A0,hc⟩:=hp.el hk;have A1:=A0;obtain ⟨A2,n',s',A3,A',m',c',rfl,_,_,_⟩:=A0;rw [dx_] at hc;exact ⟨g,o,A2,n',s',A3,A',m',c',rfl,hg,hc 0 _ rfl,hc 1 _ rfl,hc 2 _ rfl,hc 3 _ rfl,hc 4 _ rfl,fun w' l' hb=>nodes_any X K hK d _ l' w' (hu.up (.of_below hb) (l_)) A1⟩
theorem Expr_any (X:NP) (K:Nat) (hK:K<=900000000) (d:Nat) (vs:VL) (w:World) (h:VTs w X K (ay_ d) vs) (hp:pE vs):Calls prog 208 #[.agg vs.toArray] w fun e w'=>RB e/\Below w w w':=by
 have HP:=q_ hp;clear hp;obtain ⟨kd,n,s,op,A,m,c,rfl⟩:∃ (kd n:Int) (s:ByteArray) (op:Int) (A:OA) (m c:Nat),vs=[i_ kd,i_ n,.string s,i_ op,.slice A m c]:=by
  cases d with
  | zero=>obtain ⟨kd,n,s,op,A,c,rfl⟩:=h.expr0;exact ⟨kd,n,s,op,A,0,c,rfl⟩
  | succ d=>obtain ⟨kd,n,s,op,A,m,c,rfl,_⟩:=h.expr;exact ⟨kd,n,s,op,A,m,c,rfl⟩
 have H:=q_ h;clear h;go_enter func208,ntmps208;go_wp2_with (go_at_call 209;refine (nodes_any X K hK d _ _ _ (H.o.up (Kp.of_below (bel (b_))) (l_)) HP.o).mono ?_;rintro e w1 ⟨⟨r,rfl⟩,hb⟩;have A0:=h_ (Below w w w1) (Below.trans (b:=_) (bel (b_)) (hb.mono t_)));go_ret;exact ⟨⟨_,rfl⟩,A0.o⟩
def KOk (blk k:Nat) (v:Value):Prop :=
 match k with
 | 0=>∃ x,v=.bool x
 | 1=>∃ n,v=.int .i64 n
 | 2=>∃ x:ByteArray,v=.string x/\x.size<=100
 | 3=>∃ A n c,v=.slice A n c
 | o+4=>v=.pointer (some ⟨blk,o,none⟩)
structure St (N blk:Nat) (G:List (Nat × Nat × Option (Nat × Bool))) (a:Act):Prop where
 sz:a.tmps.size=N
 df:a.defers=[]
 ok:∀ t k g,(t,k,g) ∈ G->(∀ s b,g=some (s,b)->a.tmps.getD s undef=.bool b)->KOk blk k (a.tmps.getD t undef)
theorem St.get {N blk:Nat} {G:List (Nat × Nat × Option (Nat × Bool))} {a:Act} (h:St N blk G a) {t k:Nat} (hm:(t,k,none) ∈ G):KOk blk k (a.eval (.tmp t)):=h.ok t k none hm (fun _ _ h=>by cases h)
theorem St.getg {N blk:Nat} {G:List (Nat × Nat × Option (Nat × Bool))} {a:Act} (h:St N blk G a) {t k s:Nat} {b:Bool} (hm:(t,k,some (s,b)) ∈ G) (hs:a.tmps.getD s undef=.bool b):KOk blk k (a.eval (.tmp t)):=h.ok t k _ hm (fun _ _ h=>by injection h with h;injection h with h1 h2;subst h1 h2;exact hs)
def frs (d:Nat) (G:List (Nat × Nat × Option (Nat × Bool))):Bool:=G.all fun e=>e.1 != d && (match e.2.2 with | none=>true | some (s,_)=>s != d)
theorem getD_put {a:Act} {d t:Nat} {v:Value} (hd:d<a.tmps.size):(a.put (some d) v).tmps.getD t undef=if t=d then v else a.tmps.getD t undef:=by
 show (a.tmps.setIfInBounds d v).getD t undef=_
 rw [Array.getD_eq_getD_getElem?,Array.getElem?_setIfInBounds,Array.getD_eq_getD_getElem?];by_cases h:t=d
 ·subst h;rw [if_pos rfl,if_pos rfl,if_pos hd];rfl
 rw [if_neg (fun e=>h e.symm),if_neg h]
theorem St.put {N blk:Nat} {G:List (Nat × Nat × Option (Nat × Bool))} {a:Act} (h:St N blk G a) {d k:Nat} {g:Option (Nat × Bool)} {v:Value} (hd:d<N) (hf:frs d G=true) (hgd:∀ s b,g=some (s,b)->s≠d) (hv:(∀ s b,g=some (s,b)->a.tmps.getD s undef=.bool b)->KOk blk k v):St N blk ((d,k,g) :: G) (a.put (some d) v):=by
 have A1:d<a.tmps.size:=by rw [h.sz];exact hd
 refine ⟨by show (a.tmps.setIfInBounds d v).size=N;rw [Array.size_setIfInBounds];exact h.sz,h.df,fun t k' g' hm hg=>?_⟩;rcases List.mem_cons.1 hm with he | hm
 ·injection he with e1 e2;injection e2 with e2 e3;subst e1 e2 e3;rw [getD_put A1,if_pos rfl];refine hv (fun s b hs=>?_);have:=hg s b hs
  rwa [getD_put A1,if_neg (hgd s b hs)] at this
 have A0:=List.all_eq_true.1 hf _ hm;simp only [Bool.and_eq_true,bne_iff_ne,ne_eq] at A0;rw [getD_put A1,if_neg A0.1];refine h.ok t k' g' hm (fun s b hs=>?_);have h2:=A0.2;subst hs;have:=hg s b rfl
 rwa [getD_put A1,if_neg wi_] at this
section
variable {P:Program} {ops:Array Oper} {Q:Exit->Act->World->Prop} {rest:List Oper} {o:Oper} {a:Act} {w:World} {N blk d k:Nat} {G:List (Nat × Nat × Option (Nat × Bool))} {Inv:World->Prop}
def Rn (P:Program) (Q:Exit->Act->World->Prop) (blk:Nat) (Inv:World->Prop) (o:Oper) (a:Act) (w:World) (k:Nat):Prop:=∀ K:Act->World->Prop,(∀ v w',KOk blk k v->Inv w'->K (a.put o.dst v) w')->o.wp P a w K Q
theorem st_u (k:Nat) (H:St N blk G a) (hg:o.guard=none) (hd:o.dst=some d) (hN:d<N) (hf:frs d G=true) (hr:Rn P Q blk Inv o a w k) (h:∀ a' w',St N blk ((d,k,none) :: G) a'->Inv w'->wpList P ops Q rest a' w'):wpList P ops Q (o :: rest) a w:=by
 refine wpList_plain hg fun K hK=>hr K (fun v w' hv hi=>hK _ _ ?_)
 rw [hd];exact h _ _ (H.put hN hf (fun _ _ h=>by cases h) (fun _=>hv)) hi
theorem st_g (k:Nat) {j s:Nat} {b:Bool} (H:St N blk G a) (hI:Inv w) (hg:o.guard=some (j,b)) (hj:(ops[j]?).bind (·.dst)=some s) (hs:s<N) (hsd:s≠d) (hd:o.dst=some d) (hN:d<N) (hf:frs d G=true) (hr:a.tmps.getD s undef=.bool b->Rn P Q blk Inv o a w k) (h:∀ a' w',St N blk ((d,k,some (s,b)) :: G) a'->Inv w'->wpList P ops Q rest a' w'):wpList P ops Q (o :: rest) a w:=by
 have hy:yielded ops a.tmps j=some b↔a.tmps.getD s undef=.bool b:=by
  have A0:s<a.tmps.size:=by rw [H.sz];exact hs
  unfold yielded;rw [hj];show (match a.tmps[s]? with | some (.bool b)=>some b | _=>none)=some b↔_
  rw [Array.getD_eq_getD_getElem?,Array.getElem?_eq_getElem A0];simp only [Option.getD_some];cases a.tmps[s] <;> simp
 refine wpList_step fun K hK=>?_
 by_cases hw:a.tmps.getD s undef=.bool b
 ·have:Region.wanted o (yielded ops a.tmps)=true:=by simp [Region.wanted,hg,hy.2 hw]
  rw [if_pos this];refine hr hw K (fun v w' hv hi=>hK _ _ ?_);rw [hd];exact h _ _ (H.put hN hf (fun s' b' e=>by injection e with e;injection e with e1 e2;subst e1;exact hsd) (fun _=>hv)) hi
 have:Region.wanted o (yielded ops a.tmps)=false:=by
  have hne:yielded ops a.tmps j≠some b:=fun e=>hw (hy.1 e)
  simp [Region.wanted,hg];exact hne
 rw [if_neg (by rw [this];decide)];refine hK _ _ ?_;rw [hd];exact h _ _ (H.put hN hf (fun s' b' e=>by injection e with e;injection e with e1 e2;subst e1;exact hsd) (fun hc=>absurd (hc s b rfl) hw)) hI
theorem abs_wp {l:List Oper} (R:Act->World->Prop) (hR:R a w) (h:∀ a w,R a w->wpList P ops Q l a w):wpList P ops Q l a w:=h _ _ hR
theorem St.start (hs:a.tmps.size=N) (hd:a.defers=[]):St N blk [] a:=⟨hs,hd,fun _ _ _ h=>by cases h⟩
theorem St.know (h:St N blk G a) (t:Nat) (hk:KOk blk k (a.tmps.getD t undef)):St N blk ((t,k,none) :: G) a:=⟨h.sz,h.df,fun t' k' g hm hg=>by
 rcases List.mem_cons.1 hm with he | hm
 ·injection he with e1 e2
  injection e2 with e2 e3
  subst e1 e2
  exact hk
 exact h.ok t' k' g hm hg⟩
/- The operations. -/
theorem ed_ {v:Value} (hr:(execOp a.eval o).run P w=.ok (.value v) w) (hv:KOk blk k v) (hI:Inv w):Rn P Q blk Inv o a w k:=fun K hK=>by
 unfold Oper.wp;rw [hr];exact hK _ _ hv hI
theorem bf_ {x:Operand} (ho:o.op=.move x\/o.op=.assign x) (hx:KOk blk k (a.eval x)) (hI:Inv w):Rn P Q blk Inv o a w k:=by
 generalize hr:a.eval=r at hx;refine ed_ (v:=r x) wx_ hx hI
theorem rn_not {x:Operand} {T:TypeId} (ho:o.op=.unOp .not T x) (hx:KOk blk 0 (a.eval x)) (hI:Inv w):Rn P Q blk Inv o a w 0:=by
 obtain ⟨b,hb⟩:=hx;generalize hr:a.eval=r at hb;exact ed_ (v:=.bool (!b)) x3_ ⟨_,rfl⟩ hI
theorem bx_ {c x y:Operand} (ho:o.op=.pick c x y) (hc:KOk blk 0 (a.eval c)) (hx:a.eval c=.bool true->KOk blk k (a.eval x)) (hy:a.eval c=.bool false->KOk blk k (a.eval y)) (hI:Inv w):Rn P Q blk Inv o a w k:=by
 obtain ⟨b,hb⟩:=hc;generalize hr:a.eval=r at hb hx hy;cases b
 ·exact ed_ (v:=r y) x3_ (hy hb) hI
 exact ed_ (v:=r x) x3_ (hx hb) hI
end
section
variable {ops:Array Oper} {Q:Exit->Act->World->Prop} {rest:List Oper} {o:Oper} {a:Act} {w:World} {N blk d k:Nat} {G:List (Nat × Nat × Option (Nat × Bool))} {Inv:World->Prop}
theorem rn_cmp {x y:Operand} {bop:BinOp} {T:TypeId} (hb:bop=.geq\/bop=.lss\/bop=.neq\/bop=.gtr\/bop=.eql) (hT:T=3\/T=2) (ho:o.op=.binOp bop T x y T) (hx:KOk blk 1 (a.eval x)) (hy:KOk blk 1 (a.eval y)) (hI:Inv w):Rn prog Q blk Inv o a w 0:=by
 obtain ⟨m,hm⟩:=hx;obtain ⟨n,hn⟩:=hy;generalize hr:a.eval=r at hm hn;rcases hb with rfl | rfl | rfl | rfl | rfl
 ·exact ed_ (v:=.bool (decide (n<=m))) zq_ ⟨_,rfl⟩ hI
 ·exact ed_ (v:=.bool (decide (m<n))) zq_ ⟨_,rfl⟩ hI
 ·exact ed_ (v:=.bool (m != n)) zq_ ⟨_,rfl⟩ hI
 ·exact ed_ (v:=.bool (decide (n<m))) zq_ ⟨_,rfl⟩ hI
 exact ed_ (v:=.bool (m == n)) zq_ ⟨_,rfl⟩ hI
theorem rn_eqs {x y:Operand} (ho:o.op=.binOp .eql 9 x y 9) (hx:KOk blk 2 (a.eval x)) (hy:KOk blk 2 (a.eval y)) (hI:Inv w):Rn prog Q blk Inv o a w 0:=by
 obtain ⟨m,hm,_⟩:=hx;obtain ⟨n,hn,_⟩:=hy;generalize hr:a.eval=r at hm hn;exact ed_ (v:=.bool (m.toList == n.toList)) (by rw [hr];simp [execOp,ho,hm,hn,go_sem]) ⟨_,rfl⟩ hI
theorem dm_ {x:Operand} {f:Nat} (ho:o.op=.fieldAddr 212 x f) (hf:f<8) (hx:KOk blk 4 (a.eval x)) (hI:Inv w):Rn prog Q blk Inv o a w (f+4):=by
 have hx:a.eval x=.pointer (some (a_ blk)):=hx;generalize hr:a.eval=r at hx;refine ed_ (v:=.pointer (some (f_ blk f))) ?_ rfl hI;rw [hr]
 match f,hf with
 | 0,_=>simp [execOp,ho,hx,go_sem]
 | 1,_=>simp [execOp,ho,hx,go_sem]
 | 2,_=>simp [execOp,ho,hx,go_sem]
 | 3,_=>simp [execOp,ho,hx,go_sem]
 | 4,_=>simp [execOp,ho,hx,go_sem]
 | 5,_=>simp [execOp,ho,hx,go_sem]
 | 6,_=>simp [execOp,ho,hx,go_sem]
 | 7,_=>simp [execOp,ho,hx,go_sem]
theorem ek_ {x:Operand} {T:TypeId} {f:Nat} {v:Value} (hT:T=3\/T=2\/T=9\/T=192\/T=207) (ho:o.op=.load T x) (hx:KOk blk (f+4) (a.eval x)) (hc:w.cell? (f_ blk f)=some v) (hv:KOk blk k v) (hI:Inv w):Rn prog Q blk Inv o a w k:=by
 have hx:a.eval x=.pointer (some (f_ blk f)):=hx;generalize hr:a.eval=r at hx;refine ed_ (v:=v) ?_ hv hI;rw [hr];rcases hT with rfl | rfl | rfl | rfl | rfl <;> simp [execOp,ho,hx,hc,go_sem]
theorem rn_len {x:Operand} {T:TypeId} (hT:T=192\/T=207) (ho:o.op=.call { callee:=.builtin .len,args:=#[x],argTypes:=#[T] }) (hx:KOk blk 3 (a.eval x)) (hI:Inv w):Rn prog Q blk Inv o a w 1:=by
 obtain ⟨A,n,c,hn⟩:=hx;generalize hr:a.eval=r at hn;refine ed_ (v:=i_ n) ?_ ⟨_,rfl⟩ hI;rw [hr];rcases hT with rfl | rfl <;> simp [execOp,ho,hn,go_sem]
theorem rn_name {x:Operand} (ho:o.op=.call { callee:=.value (.func 186),args:=#[x],argTypes:=#[9] }) (hx:KOk blk 2 (a.eval x)) (hI:∀ w',Below w w w'->Inv w'):Rn prog Q blk Inv o a w 0:=fun K hK=>by
 obtain ⟨s,hs,hsz⟩:=hx;have A0:(execOp a.eval o).run prog w=.ok (.enter 186 #[.string s]) w:=by
  have hf:a.eval (.func 186)=.func (.func 186) #[] #[]:=rfl;generalize hr:a.eval=r at hs hf;simp [execOp,ho,hs,hf,go_sem]
 unfold Oper.wp;rw [A0];show Calls _ _ _ _ _
 refine (Name05_any s w hsz).mono ?_;rintro e w' ⟨⟨b,rfl⟩,hb⟩;exact hK _ _ ⟨b,rfl⟩ (hI w' hb)
end
structure StB (w:World) (b:Nat) (kd:Int) (s f:ByteArray) (n op:Int) (A B C:OA) (m c m1 c1 m2 c2:Nat):Prop where
 y0:w.cell? (a_ b)=some (i_ kd)
 y1:w.cell? (f_ b 1)=some (.string s)
 y2:w.cell? (f_ b 2)=some (.string f)
 y3:w.cell? (f_ b 3)=some (i_ n)
 y4:w.cell? (f_ b 4)=some (i_ op)
 y5:w.cell? (f_ b 5)=some (.slice A m c)
 y6:w.cell? (f_ b 6)=some (.slice B m1 c1)
 y7:w.cell? (f_ b 7)=some (.slice C m2 c2)
theorem num_m (n:Int) (w:World):Calls prog 118 #[i_ n] w fun e w'=>e=.returned (.agg #[i_ 1,i_ n,.string ⟨#[]⟩,i_ 0,.slice none 0 0])/\Below w w w':=by
 obtain ⟨W,hW,A0,A1,B0⟩:=af_ w [i_ 0,i_ 0,.string ⟨#[]⟩,i_ 0,.slice none 0 0] 209;have HB:=q_ B0;have HW:=q_ A0;have z0:=B0.2.1 0 _ rfl;have z1:=B0.2.1 1 _ rfl;have z2:=B0.2.1 2 _ rfl;have z3:=B0.2.1 3 _ rfl;have z4:=B0.2.1 4 _ rfl;have zf:=B0.2.2;have hz:(w:Nat)<W:=by omega
 clear B0 A0 A1;go_enter func118,ntmps118;go_upto_region 1 with fail;rw [<-hW];clear hW;go_wp2;refine retC results118 za_ underlying209 rfl k_ (cs:=[_,_,_,_,_]) (((((HB.o.set 0 _).set 1 _).set 2 _).set 3 _).set 4 _).whole rfl ?_;exact ⟨rfl,(bel HW.o)⟩
theorem name_m (s:ByteArray) (w:World):Calls prog 119 #[.string s] w fun e w'=>e=.returned (.agg #[i_ 3,i_ 0,.string s,i_ 0,.slice none 0 0])/\Below w w w':=by
 obtain ⟨W,hW,A0,A1,B0⟩:=af_ w [i_ 0,i_ 0,.string ⟨#[]⟩,i_ 0,.slice none 0 0] 209;have HB:=q_ B0;have HW:=q_ A0;have z0:=B0.2.1 0 _ rfl;have z1:=B0.2.1 1 _ rfl;have z2:=B0.2.1 2 _ rfl;have z3:=B0.2.1 3 _ rfl;have z4:=B0.2.1 4 _ rfl;have zf:=B0.2.2;have hz:(w:Nat)<W:=by omega
 clear B0 A0 A1;go_enter func119,ntmps119;go_upto_region 1 with fail;rw [<-hW];clear hW;go_wp2;refine retC results119 za_ underlying209 rfl k_ (cs:=[_,_,_,_,_]) (((((HB.o.set 0 _).set 1 _).set 2 _).set 3 _).set 4 _).whole rfl ?_;exact ⟨rfl,(bel HW.o)⟩
theorem names_m (w:World):Calls prog 167 #[] w fun e w'=>e=.returned (.slice (some (a_ w)) 5 5)/\(w':Nat)=w+1/\Below w w w'/\∀ i,i<5->∃ s:ByteArray,w'.cell? (f_ w i)=some (.string s)/\s.size<=100:=by
 go_enter func167,ntmps167;go_wp2;go_ret;refine ⟨rfl,zj_,(b_).alloc (l_) _,fun i hi=>?_⟩
 match i,hi with
 | 0,_=>exact ⟨_,zg_,d_⟩
 | 1,_=>exact ⟨_,zg_,d_⟩
 | 2,_=>exact ⟨_,zg_,d_⟩
 | 3,_=>exact ⟨_,zg_,d_⟩
 | 4,_=>exact ⟨_,zg_,d_⟩
theorem Bx.new' {w:World} {b:Nat} (cs:VL) (t:TypeId) (hb:w=b):Bx (w.alloc (.cells cs.toArray t)) b cs:=by subst hb;exact Bx.new w cs t
def ExV (w:World) (X:NP) (d:Nat) (kd n:Int) (s:ByteArray) (op:Int) (A:OA) (m c:Nat):Prop:=VTs w X 20 (ay_ d) (exL kd n s op A m c)/\pE (exL kd n s op A m c)
theorem bin_m (X:NP) (d:Nat) (op kd n:Int) (s:ByteArray) (o:Int) (A:OA) (m c:Nat) (kd' n':Int) (s':ByteArray) (o':Int) (A':OA) (m' c':Nat) (w:World) (h1:ExV w X d kd n s o A m c) (h2:ExV w X d kd' n' s' o' A' m' c') (hX:∀ k,X k->k<w) :
  Calls prog 117 #[i_ op,.agg #[i_ kd,i_ n,.string s,i_ o,.slice A m c],.agg #[i_ kd',i_ n',.string s',i_ o',.slice A' m' c']] w fun e w'=>RE X (d+1) e w'/\Below w w w':=by
 obtain ⟨W,hW,A1,A2,B0,B1,B2⟩:=ei_ w (exL kd n s o A m c) 209 (exL kd' n' s' o' A' m' c') 209 [i_ 0,i_ 0,.string ⟨#[]⟩,i_ 0,.slice none 0 0] 209;have HB:=h_ (Bx W (w+1+1) _) B2;have HW:=q_ A1;have H1:=q_ h1.1;have H2:=q_ h2.1;have P1:=q_ h1.2;have P2:=q_ h2.2;have HX:=h_ (¬X W) (fun h=>by have:=hX _ h;omega);have hz:(w:Nat)+2<W:=by omega
 have A4:¬(w:Nat)+1+1=W:=by omega
 have A0:W=((w.alloc (.cells #[i_ kd,i_ n,.string s,i_ o,.slice A m c] 209)).alloc (.cells #[i_ kd',i_ n',.string s',i_ o',.slice A' m' c'] 209)).alloc (.cells #[i_ 0,i_ 0,.string ⟨#[]⟩,i_ 0,.slice none 0 0] 209):=hW;have x0:=B0.2.1 0 _ rfl;have x1:=B0.2.1 1 _ rfl;have x2:=B0.2.1 2 _ rfl;have x3:=B0.2.1 3 _ rfl;have x4:=B0.2.1 4 _ rfl;have y0:=B1.2.1 0 _ rfl;have y1:=B1.2.1 1 _ rfl;have y2:=B1.2.1 2 _ rfl;have y3:=B1.2.1 3 _ rfl;have y4:=B1.2.1 4 _ rfl;have z0:W.cell? ⟨w+1+1,0,none⟩=some (i_ 0):=B2.2.1 0 _ rfl;have z1:W.cell? ⟨w+1+1,1,none⟩=some (i_ 0):=B2.2.1 1 _ rfl;have z2:W.cell? ⟨w+1+1,2,none⟩=some (.string ⟨#[]⟩):=B2.2.1 2 _ rfl;have z3:W.cell? ⟨w+1+1,3,none⟩=some (i_ 0):=B2.2.1 3 _ rfl;have z4:W.cell? ⟨w+1+1,4,none⟩=some (.slice none 0 0):=B2.2.1 4 _ rfl;have zf:∀ j,W.frozen? ⟨w+1+1,j,none⟩=false:=B2.2.2;have A3:(w:Nat)+1+1<W:=by omega
 clear B0 B1 B2 A1 h1 h2 hX hW A2;go_enter func117,ntmps117;go_upto_region 1 with fail;rw [<-A0];clear A0;go_wp2;refine retC results117 za_ underlying209 rfl k_ (cs:=[_,_,_,_,_]) ((((((HB.o.set 0 _).set 1 _).set 2 _).set 3 _).set 4 _).alloc _).whole rfl ?_;have hb:Below w w ((((((W.setCell ⟨w+1+1,0,none⟩ (i_ 5)).setCell ⟨w+1+1,1,none⟩ (i_ 0)).setCell ⟨w+1+1,2,none⟩ (.string ⟨#[]⟩)).setCell ⟨w+1+1,3,none⟩ (i_ op)).setCell ⟨w+1+1,4,none⟩ (.slice (some (a_ W)) 2 2)).alloc (.cells (exL kd n s o A m c ++ exL kd' n' s' o' A' m' c').toArray 209)):=(bel HW.o);refine ⟨⟨_,_,_,_,_,_,_,rfl,q_ ⟨vts_ex (SlP.two (us:=exL kd n s o A m c) (vs:=exL kd' n' s' o' A' m' c') (Bx.new' (exL kd n s o A m c ++ exL kd' n' s' o' A' m' c') 209 t_) HX.o d_ (H1.o.up (Kp.of_below hb) (l_)) P1.o (H2.o.up (Kp.of_below hb) (l_)) P2.o),pE_ex x_ (fun _=>l_) d_⟩⟩,hb⟩
theorem set_m (X:NP) (t:ByteArray) (kd n:Int) (s:ByteArray) (o:Int) (A:OA) (m c:Nat) (w:World) (ht:t.size<=100) (h1:ExV w X dE kd n s o A m c) (hX:∀ k,X k->k<w) :
  Calls prog 116 #[.string t,.agg #[i_ kd,i_ n,.string s,i_ o,.slice A m c]] w fun e w'=>RS X 0 e w'/\Below w w w':=by
 obtain ⟨W,hW,A1,A2,B0,B2⟩:=cb_ w (exL kd n s o A m c) 209 [i_ 0,.string ⟨#[]⟩,.string ⟨#[]⟩,i_ 0,i_ 0,.slice none 0 0,.slice none 0 0,.slice none 0 0] 212;have HB:=q_ B2;have HW:=q_ A1;have H1:=q_ h1.1;have P1:=q_ h1.2;have HX:=h_ (¬X W) (fun h=>by have:=hX _ h;omega);have hz:(w:Nat)+1<W:=by omega
 have A3:¬(w:Nat)+1=W:=by omega
 have A0:W=(w.alloc (.cells #[i_ kd,i_ n,.string s,i_ o,.slice A m c] 209)).alloc (.cells #[i_ 0,.string ⟨#[]⟩,.string ⟨#[]⟩,i_ 0,i_ 0,.slice none 0 0,.slice none 0 0,.slice none 0 0] 212):=hW;have HT:=q_ ht;have x0:=B0.2.1 0 _ rfl;have x1:=B0.2.1 1 _ rfl;have x2:=B0.2.1 2 _ rfl;have x3:=B0.2.1 3 _ rfl;have x4:=B0.2.1 4 _ rfl;have z0:=B2.2.1 0 _ rfl;have z1:=B2.2.1 1 _ rfl;have z2:=B2.2.1 2 _ rfl;have z3:=B2.2.1 3 _ rfl;have z4:=B2.2.1 4 _ rfl;have z5:=B2.2.1 5 _ rfl;have z6:=B2.2.1 6 _ rfl;have z7:=B2.2.1 7 _ rfl;have zf:=B2.2.2;clear B0 B2 A1 h1 hX hW A2 ht;go_enter func116,ntmps116;go_upto_region 1 with fail;rw [<-A0];clear A0;go_wp2;refine retC results116 za_ underlying212 rfl k_ (cs:=[_,_,_,_,_,_,_,_]) (((((((((HB.o.set 0 _).set 1 _).set 2 _).set 3 _).set 4 _).set 5 _).set 6 _).set 7 _).alloc _).whole rfl ?_;have hb:Below w w (((((((((W.setCell (a_ (w+1)) (i_ 1)).setCell (f_ (w+1) 1) (.string t)).setCell (f_ (w+1) 2) (.string ⟨#[]⟩)).setCell (f_ (w+1) 3) (i_ 0)).setCell (f_ (w+1) 4) (i_ 0)).setCell (f_ (w+1) 5) (.slice (some (a_ W)) 1 1)).setCell (f_ (w+1) 6) (.slice none 0 0)).setCell (f_ (w+1) 7) (.slice none 0 0)).alloc (.cells (exL kd n s o A m c).toArray 209)):=(bel HW.o);refine ⟨⟨_,_,_,_,_,_,_,_,_,_,_,_,_,_,rfl,q_ ⟨ec_ (SlP.one (Bx.new' (exL kd n s o A m c) 209 t_) HX.o d_ (H1.o.up (Kp.of_below hb) (l_)) P1.o),pS_st x_ x_ x_ HT.o d_⟩⟩,hb⟩
end Go.Proofs.YtfolidlmgfhkiaaGreat
namespace Go.Proofs.YtfolidlmgfhkiaaGreat
open Go.RowKit
def Dd (d:Nat) (w w':World):Prop:=(w':Nat)=w/\Kp (fun k=>k=d) w w'
theorem Dd.refl (d:Nat) (w:World):Dd d w w:=⟨rfl,Kp.refl _ _⟩
theorem Dd.trans {d:Nat} {w w' w2:World} (h:Dd d w w') (h2:Dd d w' w2):Dd d w w2:=⟨h2.1.trans h.1,h.2.trans h2.2⟩
theorem Fr.dice {X Y:NP} {L:List LV} {C:Nat->VL} {w0 w:World} {d:Nat} (h:Fr X (fun _=>False) w0 L Y C w) (hD:Dice w0 d):Dice w d:=hD.below h.below
theorem Dice.back {w0 w:World} {d:Nat} (h:Dice w d) (hk:Kp (fun _=>False) w0 w) (hd:d<w0):Dice w0 d:=by
 obtain ⟨_,S,sn,sc,a,h0,h1,h2,h3,h4,h5⟩:=h;refine ⟨hd,S,sn,sc,a,(hk.cell hd (fun h=>h)).symm.trans h0,(hk.cell hd (fun h=>h)).symm.trans h1,(hk.frozen hd (fun h=>h)).symm.trans h2,h3,h4,fun i hi=>?_⟩;obtain ⟨sb,so,x,e,h6,h7,h8,h9⟩:=h5 i hi;exact ⟨sb,so,x,e,h6,h7,h8,(hk.cell o_ (fun h=>h)).symm.trans h9⟩
theorem Fr.kpd {X Y:NP} {L:List LV} {C:Nat->VL} {w0 w w':World} {d:Nat} (h:Fr X (fun _=>False) w0 L Y C w) (hd:d<w0) (hX:X d) (hk:w.grownBy w' (some d)) :
  (∃ w0',Dd d w0 w0'/\Fr X (fun _=>False) w0' L Y C w')/\Up w Y w' Y:=by
 have A0:Kp (fun k=>k=d) w w':=(Kp.refl _ w).grown hk (fun k hk=>by injection hk with hk;exact .inl hk.symm);have A4:Kp Y w w':=A0.mono (fun k _ hk=>by subst hk;exact h.sub _ hX);have A2:Up w Y w' Y:=⟨A4,fun _ _ h=>h⟩;have A3:d<w:=lt_ hd h.kp.size;have A1:d<w':=lt_ A3 hk.size;have hb:∀ p ∈ L,p.b≠d:=fun p hp=>by
  rcases (h.blk p hp).2.1 with h1 | h1
  ·omega
  exact h1.elim
 refine ⟨⟨{ w0 with heap:=w0.heap.setIfInBounds d w'.heap[d] },⟨zj_,⟨rfl,rfl,rfl,zj_,fun k hk hx=>by simp only [Array.getElem?_setIfInBounds];rw [if_neg (fun e=>hx e.symm)]⟩⟩,⟨?_,h.sub,fun k hk=>lt_ (h.lt k hk) A0.size,fun p hp=>?_,fun p hp j t hj ho=>?_,fun p hp j t et hj ho=>?_,h.far,h.nd⟩⟩,A2⟩
 ·refine ⟨A0.os.trans h.kp.os,A0.tape.trans h.kp.tape,A0.output.trans h.kp.output,by simpa using Nat.le_trans h.kp.size A0.size,fun k hk hx=>?_⟩;have hk:k<w0:=by simpa using hk
  show _=(w0.heap.setIfInBounds d w'.heap[d])[k]?
  rw [Array.getElem?_setIfInBounds];by_cases e:d=k
  ·subst e;rw [if_pos rfl,if_pos hk];exact Array.getElem?_eq_getElem A1
  rw [if_neg e];exact (A0.block k (lt_ hk h.kp.size) (fun e2=>e e2.symm)).trans (h.kp.block k hk (fun h=>h))
 ·obtain ⟨h1,h2,h3,h4⟩:=h.blk p hp;exact ⟨h1,wi_,h3.kp A0 (hb p hp),h4⟩
 ·obtain ⟨v,h1,h2⟩:=h.val p hp j t hj ho;exact ⟨v,h1,h2.go A2 (l_)⟩
 obtain ⟨e,A,n,c,h1,h2,h3,h4,h5⟩:=h.row p hp j t et hj ho;refine ⟨e,A,n,c,h1,h2,h3,h4.stay hk (fun k hk=>?_),fun g hg=>⟨(h5 g hg).1,by simpa using (h5 g hg).2.1,(h5 g hg).2.2⟩⟩;injection hk with hk;subst hk;refine ⟨h.sub _ hX,fun e=>?_⟩;rcases (h5 _ e).2.1 with h6 | h6
 ·omega
 exact h6.elim
structure Rd (d:Nat) (w w':World):Prop where
 dice:Dice w' d
 kp:Kp (fun k=>k=d) w w'
theorem Rd.thrown {d:Nat} {w w':World} (h:Rd d w w'):cd_ w d w':=⟨h.dice,⟨h.kp.os,h.kp.tape,h.kp.output,h.kp.size,fun k hk hr=>h.kp.block k hk (fun e=>hr xq_)⟩⟩
theorem Rd.trans {d:Nat} {w w' w2:World} (h:Rd d w w') (h2:Rd d w' w2):Rd d w w2:=⟨h2.dice,h.kp.trans h2.kp⟩
theorem Rd.below {d:Nat} {w w' w2:World} (h:Rd d w w') (hb:Below w' w' w2):Rd d w w2:=⟨h.dice.below hb,h.kp.bb_ hb⟩
def Fs (d:Nat) (X:NP) (w:World) (L:List LV) (Y:NP) (C:Nat->VL) (w':World):Prop:=∃ w0,Dd d w w0/\Dice w0 d/\Fr X (fun _=>False) w0 L Y C w'
theorem Fr.fs {X Y:NP} {L:List LV} {C:Nat->VL} {w w':World} {d:Nat} (h:Fr X (fun _=>False) w L Y C w') (hD:Dice w d):Fs d X w L Y C w':=⟨w,Dd.refl d w,hD,h⟩
section
variable {X Y:NP} {L:List LV} {C:Nat->VL} {w w1 w2:World} {d:Nat}
theorem Fs.dice (h:Fs d X w L Y C w1):Dice w1 d:=by
 obtain ⟨w0,h1,h2,h3⟩:=h;exact h3.dice h2
theorem Fs.pick (h:Fs d X w L Y C w1) (hX:X d) (ht:cd_ w1 d w2):Fs d X w L Y C w2/\Up w1 Y w2 Y:=by
 obtain ⟨w0,h1,h2,h3⟩:=h;obtain ⟨⟨A0,h4,h5⟩,h6⟩:=h3.kpd h2.lt hX ht.grown;refine ⟨⟨A0,h1.trans h4,ht.dice.back h5.kp ?_,h5⟩,h6⟩;rw [h4.1];exact h2.lt
theorem Fs.rd (h:Fs d X w L Y C w1) (hX:X d) (ht:Rd d w1 w2):Fs d X w L Y C w2/\Up w1 Y w2 Y:=h.pick hX ht.thrown
theorem Fs.end_ (h:Fs d X w L Y C w1):Rd d w w1:=by
 obtain ⟨w0,h1,h2,h3⟩:=h;exact ⟨h3.dice h2,h1.2.trans (h3.kp.mono (fun k _ hk=>hk.elim))⟩
theorem Fs.map {L':List LV} {Y':NP} {C':Nat->VL} (h:Fs d X w L Y C w1) (f:∀ w0,w0.heap.size=w.heap.size->Fr X (fun _=>False) w0 L Y C w1->Fr X (fun _=>False) w0 L' Y' C' w2):Fs d X w L' Y' C' w2:=by
 obtain ⟨w0,h1,h2,h3⟩:=h;exact ⟨w0,h1,h2,f w0 h1.1 h3⟩
theorem Fs.call (h:Fs d X w L Y C w1) (hb:Below w1.heap.size w1 w2):Fs d X w L Y C w2:=h.map (fun _ _ f=>f.call hb)
end
end Go.Proofs.YtfolidlmgfhkiaaGreat
namespace Go.Proofs.YtfolidlmgfhkiaaGreat.Sq
open Go.RowKit Go.Proofs.Tryz
def aft (k:Nat):Nat->List Int
 | 0=>[]
 | j+1=>if k<j then aft k j ++ [((j:Nat):Int)] else aft k j
theorem aft_len (k:Nat):∀ j,(aft k j).length=j - (k+1)
 | 0=>by simp [aft]
 | j+1=>by
  have ih:=aft_len k j;rw [aft];split
  ·rw [List.length_append,ih];simp;omega
  rw [ih];omega
theorem after_any (B:OA) (m d k:Nat) (hm:m<=900000) (w:World) :
  Calls prog 14 #[.slice B m d,i_ k] w (GivesI (aft k m) w):=by
 obtain ⟨i0,hi,Ag,Ah,Ai⟩:=info_parts infoInt;have Aj:¬(k:Int)<0:=by omega
 have Af:(k:Int) ≥ 0:=by omega
 go_enter func14,ntmps14;go_wp2_with fail;go_loopw [5,9] (fun v i wr=>∃ j:Nat,j<=m/\i=i_ j/\Hid (wr.ownsRow w 3 1 v (aft k j).length ((aft k j).flatMap intCells))/\Hid (Below w w wr)) (fun _ i _=>m - (intOf i).toNat)
 case atStart=>exact ⟨0,Nat.zero_le _,rfl,q_ (World.ownsRow_nil _ _ _ _),q_ (b_)⟩
 obtain ⟨j,hj,rfl,hO,hb⟩:=hrel;have A0:=aft_len k j;by_cases hlt:j<m
 case neg =>
  obtain rfl:j=m:=by omega
  have Ae:¬(j:Int)<(j:Int):=by omega
  clear A0;rcases hO.o.2 with ⟨rfl,h0⟩ | ⟨g,cap,cur,rfl,_⟩
  ·go_wp2_with fail;go_ret;exact ⟨none,_,0,by rw [h0];rfl,Sl.da_ (cells:=intCells) (fun _=>rfl) rfl (by have h:=hO.o;rw [show (Value.slice none 0 0)=.slice none (aft k j).length 0 by rw [h0]] at h;exact h),hb.o⟩
  go_wp2_with fail;go_ret;exact ⟨_,_,_,rfl,Sl.da_ (cells:=intCells) (fun _=>rfl) rfl hO.o,hb.o⟩
 case pos =>
 have Ae:(j:Int)<(m:Int):=by omega
 by_cases hkj:k<j
 case neg =>
  have A7:¬(j:Int) > (k:Int):=by omega
  have HD:=h_ (aft k (j+1)=aft k j) (by rw [aft,if_neg hkj]);go_wp2_with fail;go_roundw
  case rel=>exact ⟨j+1,o_,zb_,q_ (by rw [HD.o];exact hO.o),hb⟩
  case measure=>simp [intOf] <;> omega
 have A7:(j:Int) > (k:Int):=by omega
 obtain ⟨l,hl⟩:=ex_ (aft k j);have HD:=h_ (aft k (j+1)=l ++ [(j:Int)]) (by rw [aft,if_pos hkj,hl]);rw [<-hl] at hO A0;have A2:=q_ A0;have A5:=q_ hb.o.size;have A9:=q_ ((b_).alloc (l_) _:Below wr wr (wr.alloc (.cells #[i_ (j:Int)] 3)));have Ab:=h_ (∀ ad,(some (a_ wr):OA)=some ad->∀ (i:Nat) (u:Value),(intCells (j:Int))[i]?=some u->(wr.alloc (.cells #[i_ (j:Int)] 3)).cell? (ad.add i)=some u) (fun ad h i u hu=>by
  injection h with h
  subst h
  rw [Addr.add_lit,ar_ _ _ _ _ _ rfl,Nat.zero_add,List.getElem?_toArray]
  exact hu)
 clear hl A0 hkj;go_wp2_with (at_builtin;refine bt_ rfl _ _ 30 rfl w 3 i0 _ 1 8 underlying30 hi Ag Ah Ai rfl d_ u5 l.length (l.flatMap intCells) rfl (own_below hO.o A9.o) (some (a_ wr)) 1 1 (intCells (j:Int)) rfl w3_ rfl Ab.o (by simp [intCells,Value.oneCell']) (by have:=A2.o;unfold maxLen;omega) (by have:=A2.o;omega) (by have:=A5.o;simp;omega) ?_;intro A3 c3 w3 A1 A4 A6);have Ad:=q_ A1;have A8:Below w w w3:=(hb.o.alloc A5.o _).grown A4 (by have:=A5.o;simp;omega) (fun k hk=>(hO.o.lt k hk).1);have Aa:=q_ A8;clear A1 A4 A6 A8;go_roundw
 case rel=>exact ⟨j+1,o_,zb_,q_ (by rw [HD.o,List.length_append,List.flatMap_append];simpa using Ad.o),Aa⟩
 case measure=>simp [intOf] <;> omega
theorem dependents_none (HA:OA) (hn hc:Nat) (B:OA) (d:Nat) (k:Int) (w:World) :
  Calls prog 11 #[.agg #[.slice HA hn hc],.slice B 0 d,i_ k] w fun e w'=>e=.returned (.slice none 0 0)/\Below w w w':=by
 go_enter func11,ntmps11;by_cases hk:k<0
 ·go_wp2_with fail;go_ret;exact ⟨rfl,(bel (b_))⟩
 have A0:k ≥ 0:=by omega
 go_wp2_with fail;go_ret;exact ⟨rfl,(bel (b_))⟩
end Go.Proofs.YtfolidlmgfhkiaaGreat.Sq
namespace Go.Proofs.YtfolidlmgfhkiaaGreat
open Go.RowKit Go.Proofs.Tryz
section
variable {X:XE} {w w':World}
structure IC (d b lp:Nat) (X:XE) (Inv:World->Prop):Prop where
 ok:∀ w,Inv w->Mk d b lp w
 zx:∀ k,Zm d b k->X k
 lt:∀ w,Inv w->∀ k,X k->k<w
 up:∀ w w',Inv w->Mk d b lp w'->Kp (Zm d b) w w'->Inv w'
 ex:∀ w w',Inv w->Kp (Zm d b) w w'->X.e w->X.e w'
theorem IC.below {d b lp:Nat} {Inv:World->Prop} (h:IC d b lp X Inv) (hI:Inv w) (hb:Below w w w'):Inv w':=h.up w w' hI ((h.ok w hI).below hb) (.of_below hb)
def kV (X:XE) (v:Value):SK X:=⟨fun _ u=>u=v,fun _ _ _ _ _ h=>h⟩
def kNat (X:XE) (n:Nat):SK X:=⟨fun _ u=>∃ r:Nat,r<n/\u=i_ r,fun _ _ _ _ _ h=>h⟩
def kInt (X:XE):SK X:=⟨fun _ u=>∃ r:Int,u=i_ r,fun _ _ _ _ _ h=>h⟩
def kStr (X:XE):SK X:=⟨fun _ u=>∃ s:ByteArray,u=.string s/\s.size<=100,fun _ _ _ _ _ h=>h⟩
def bs_ (X:XE) (n:Nat):SK X:=⟨fun w u=>∃ g,u=.slice (some (a_ g)) n n/\g<w/\¬X g/\∀ i,i<n->∃ s:ByteArray,w.cell? (f_ g i)=some (.string s)/\s.size<=100,fun w w' u hk _ ⟨g,e,hg,hX,hc⟩=>⟨g,e,lt_ hg hk.size,hX,fun i hi=>by
 obtain ⟨s,hs,hz⟩:=hc i hi
 exact ⟨s,(hk.cell hg hX).trans hs,hz⟩⟩⟩
def kInts (X:XE) (n:Nat):SK X:=⟨fun w u=>∃ g,u=.slice (some (a_ g)) n n/\g<w/\¬X g/\∀ i,i<n->∃ s:Int,w.cell? (f_ g i)=some (i_ s)/\s≠3/\s≠5/\s≠6,fun w w' u hk _ ⟨g,e,hg,hX,hc⟩=>⟨g,e,lt_ hg hk.size,hX,fun i hi=>by
 obtain ⟨s,hs,hz⟩:=hc i hi
 exact ⟨s,(hk.cell hg hX).trans hs,hz⟩⟩⟩
def kInts' (X:XE) (n:Nat):SK X:=⟨fun w u=>∃ g,u=.slice (some (a_ g)) n n/\g<w/\¬X g/\∀ i,i<n->∃ s:Int,w.cell? (f_ g i)=some (i_ s),fun w w' u hk _ ⟨g,e,hg,hX,hc⟩=>⟨g,e,lt_ hg hk.size,hX,fun i hi=>by
 obtain ⟨s,hs⟩:=hc i hi
 exact ⟨s,(hk.cell hg hX).trans hs⟩⟩⟩
def df_ (X:XE):SK X:=⟨fun w u=>∃ g o,∃ s:ByteArray,u=.pointer (some (f_ g o))/\g<w/\¬X g/\w.cell? (f_ g o)=some (.string s)/\s.size<=100,fun w w' u hk _ ⟨g,o,s,e,hg,hX,hc,hz⟩=>⟨g,o,s,e,lt_ hg hk.size,hX,(hk.cell hg hX).trans hc,hz⟩⟩
def kPInt (X:XE):SK X:=⟨fun w u=>∃ g o,∃ s:Int,u=.pointer (some (f_ g o))/\g<w/\¬X g/\w.cell? (f_ g o)=some (i_ s)/\s≠3/\s≠5/\s≠6,fun w w' u hk _ ⟨g,o,s,e,hg,hX,hc,hz⟩=>⟨g,o,s,e,lt_ hg hk.size,hX,(hk.cell hg hX).trans hc,hz⟩⟩
def kPInt' (X:XE):SK X:=⟨fun w u=>∃ g o,∃ s:Int,u=.pointer (some (f_ g o))/\g<w/\¬X g/\w.cell? (f_ g o)=some (i_ s),fun w w' u hk _ ⟨g,o,s,e,hg,hX,hc⟩=>⟨g,o,s,e,lt_ hg hk.size,hX,(hk.cell hg hX).trans hc⟩⟩
def kKind (X:XE):SK X:=⟨fun _ u=>∃ s:Int,u=i_ s/\s≠3/\s≠5/\s≠6,fun _ _ _ _ _ h=>h⟩
theorem ExV.kp {d:Nat} {kd n:Int} {s:ByteArray} {op:Int} {A:OA} {m c:Nat} (h:ExV w X d kd n s op A m c) (hk:Kp X w w'):ExV w' X d kd n s op A m c:=⟨h.1.up hk (l_),h.2⟩
def kEx (X:XE) (d:Nat):SK X:=⟨fun w u=>∃ (kd n:Int) (s:ByteArray) (op:Int) (A:OA) (m c:Nat),u=.agg #[i_ kd,i_ n,.string s,i_ op,.slice A m c]/\ExV w X d kd n s op A m c,fun w w' u hk _ ⟨kd,n,s,op,A,m,c,e,h⟩=>⟨kd,n,s,op,A,m,c,e,h.kp hk⟩⟩
def StV (w:World) (X:XE) (d:Nat) (kd:Int) (s f:ByteArray) (n op:Int) (A:OA) (m c:Nat) (B:OA) (m1 c1:Nat) (C:OA) (m2 c2:Nat):Prop:=VTs w X 20 (ah_ d) (stL kd s f n op A m c B m1 c1 C m2 c2)/\pS (stL kd s f n op A m c B m1 c1 C m2 c2)
def kSt (X:XE) (d:Nat):SK X:=⟨fun w u=>∃ (kd:Int) (s f:ByteArray) (n op:Int) (A:OA) (m c:Nat) (B:OA) (m1 c1:Nat) (C:OA) (m2 c2:Nat),u=.agg #[i_ kd,.string s,.string f,i_ n,i_ op,.slice A m c,.slice B m1 c1,.slice C m2 c2]/\StV w X d kd s f n op A m c B m1 c1 C m2 c2,
 fun w w' u hk _ ⟨kd,s,f,n,op,A,m,c,B,m1,c1,C,m2,c2,e,h⟩=>⟨kd,s,f,n,op,A,m,c,B,m1,c1,C,m2,c2,e,h.1.up hk (l_),h.2⟩⟩
def kExs (X:XE) (d n:Nat):SK X:=⟨fun w u=>∃ A c,u=.slice A n c/\SlP w X 20 pE (ay_ d) A n c,fun w w' u hk _ ⟨A,c,e,h⟩=>⟨A,c,e,h.kept hk (fun _ _ h=>h) (l_)⟩⟩
def kSts (X:XE) (d q:Nat):SK X:=⟨fun w u=>∃ A n c,u=.slice A n c/\n<=q/\SlP w X 20 pS (ah_ d) A n c,fun w w' u hk _ ⟨A,n,c,e,hq,h⟩=>⟨A,n,c,e,hq,h.kept hk (fun _ _ h=>h) (l_)⟩⟩
end
section
variable {P:Program} {Q:Exit->Act->World->Prop} {X:XE} {Inv:World->Prop} {κ:SK X} {o:Oper} {a:Act} {w:World}
theorem bq_ {v:Value} (hr:(execOp a.eval o).run P w=.ok (.value v) w) (hv:κ.p w v) (hI:Inv w):RnK P Q X Inv κ o a w:=fun K hK=>by
 unfold Oper.wp;rw [hr];exact hK _ _ (Kp.refl _ _) (fun h=>h) hI hv
theorem rk_to {v:Value} {w':World} (hr:(execOp a.eval o).run P w=.ok (.value v) w') (hk:Kp X w w') (he:X.e w->X.e w') (hv:κ.p w' v) (hI:Inv w'):RnK P Q X Inv κ o a w:=fun K hK=>by
 unfold Oper.wp;rw [hr];exact hK _ _ hk he hI hv
theorem cm_ {f:Nat} {args:Array Value} (hr:(execOp a.eval o).run P w=.ok (.enter f args) w) (hc:Calls P f args w (fun e w'=>∃ v,e=.returned v/\Kp X w w'/\(X.e w->X.e w')/\Inv w'/\κ.p w' v)):RnK P Q X Inv κ o a w:=fun K hK=>by
 unfold Oper.wp;rw [hr];show Calls _ _ _ _ _
 refine hc.mono ?_;rintro e w' ⟨v,rfl,h1,h0,h2,h3⟩;exact hK _ _ h1 h0 h2 h3
theorem bl_ {x:Operand} (ho:o.op=.move x\/o.op=.assign x) (hx:κ.p w (a.eval x)) (hI:Inv w):RnK P Q X Inv κ o a w:=by
 generalize hr:a.eval=r at hx;exact bq_ (v:=r x) wx_ hx hI
theorem bz_ {x:Operand} {p:Addr} (ho:o.op=.nilCheck x) (hx:a.eval x=.pointer (some p)) (hI:Inv w):RnK P Q X Inv (kV X (.pointer (some p))) o a w:=by
 generalize hr:a.eval=r at hx;exact bq_ (v:=.pointer (some p)) (by rw [hr];simp [execOp,ho,hx,go_sem]) rfl hI
end
section
variable {Q:Exit->Act->World->Prop} {X:XE} {Inv:World->Prop} {o:Oper} {a:Act} {w:World} {d b lp:Nat}
theorem ca_ {x:Operand} {f:Nat} (hf:f<4) (ho:o.op=.fieldAddr 205 x f) (hx:a.eval x=.pointer (some (a_ b))) (hI:Inv w):RnK prog Q X Inv (kV X (.pointer (some (f_ b f)))) o a w:=by
 generalize hr:a.eval=r at hx;refine bq_ (v:=.pointer (some (f_ b f))) ?_ rfl hI;rw [hr]
 match f,hf with
 | 0,_=>simp [execOp,ho,hx,go_sem]
 | 1,_=>simp [execOp,ho,hx,go_sem]
 | 2,_=>simp [execOp,ho,hx,go_sem]
 | 3,_=>simp [execOp,ho,hx,go_sem]
theorem rk_load {x:Operand} {T:TypeId} {p:Addr} {v:Value} {κ:SK X} (hT:T=3\/T=2\/T=9\/T=45\/T=192\/T=207) (ho:o.op=.load T x) (hx:a.eval x=.pointer (some p)) (hc:w.cell? p=some v) (hv:κ.p w v) (hI:Inv w):RnK prog Q X Inv κ o a w:=by
 generalize hr:a.eval=r at hx;refine bq_ (v:=v) ?_ hv hI;rw [hr];rcases hT with rfl | rfl | rfl | rfl | rfl | rfl <;> simp [execOp,ho,hx,hc,go_sem]
theorem bk_ {x:Operand} (hC:IC d b lp X Inv) (ho:o.op=.load 45 x) (hx:a.eval x=.pointer (some (a_ b))) (hI:Inv w):RnK prog Q X Inv (kV X (pt d)) o a w :=
 rk_load (.inr (.inr (.inr (.inl rfl)))) ho hx (hC.ok w hI).c0 rfl hI
theorem eg_ {x:Operand} (ho:o.op=.load 9 x) (hx:(df_ X).p w (a.eval x)) (hI:Inv w):RnK prog Q X Inv (kStr X) o a w:=by
 obtain ⟨g,q,s,e,hg,hX,hc,hz⟩:=hx;exact rk_load (.inr (.inr (.inl rfl))) ho e hc ⟨s,rfl,hz⟩ hI
theorem rk_lint {x:Operand} (ho:o.op=.load 3 x) (hx:(kPInt X).p w (a.eval x)) (hI:Inv w):RnK prog Q X Inv (kKind X) o a w:=by
 obtain ⟨g,q,s,e,hg,hX,hc,hz⟩:=hx;exact rk_load (.inl rfl) ho e hc ⟨s,rfl,hz⟩ hI
theorem rk_lint' {x:Operand} (ho:o.op=.load 3 x) (hx:(kPInt' X).p w (a.eval x)) (hI:Inv w):RnK prog Q X Inv (kInt X) o a w:=by
 obtain ⟨g,q,s,e,hg,hX,hc⟩:=hx;exact rk_load (.inl rfl) ho e hc ⟨s,rfl⟩ hI
theorem bp_ {x:Operand} {n:Nat} {y:Operand} (hC:IC d b lp X Inv) (ho:o.op=.call { callee:=.value (.func 26),args:=#[x,y],argTypes:=#[45,3] }) (hx:a.eval x=.pointer (some (a_ d))) (hy:a.eval y=i_ n) (h1:1<=n) (hn:n<=1000000) (hI:Inv w):RnK prog Q X Inv (kNat X n) o a w:=by
 have hf:a.eval (.func 26)=.func (.func 26) #[] #[]:=rfl;generalize hr:a.eval=r at hx hy hf;refine cm_ (f:=26) (args:=#[.pointer (some (a_ d)),i_ n]) z9_ ((bn_ d n w (hC.ok w hI).dice h1 hn).mono ?_);rintro e w' ⟨q,hq,rfl,ht,_⟩;exact ⟨_,rfl,(ht.kp b).mono (fun k _ hk=>hC.zx k hk),hC.ex w w' hI (ht.kp b),hC.up w w' hI ((hC.ok w hI).thrown ht) (ht.kp b),q,hq,rfl⟩
theorem rk_num {x:Operand} {n:Int} (hC:IC d b lp X Inv) (ho:o.op=.call { callee:=.value (.func 118),args:=#[x],argTypes:=#[2] }) (hx:a.eval x=i_ n) (hI:Inv w):RnK prog Q X Inv (kEx X 0) o a w:=by
 have hf:a.eval (.func 118)=.func (.func 118) #[] #[]:=rfl;generalize hr:a.eval=r at hx hf;refine cm_ (f:=118) (args:=#[i_ n]) ys_ ((num_m n w).mono ?_);rintro e w' ⟨rfl,hb⟩;exact ⟨_,rfl,.of_below hb,hC.ex w w' hI (.of_below hb),hC.below hI hb,_,_,_,_,_,_,_,rfl,vts_ex0 _ _ _ _,pE_ex x_ x_ d_⟩
theorem eh_ {x:Operand} (hC:IC d b lp X Inv) (ho:o.op=.call { callee:=.value (.func 119),args:=#[x],argTypes:=#[9] }) (hx:(kStr X).p w (a.eval x)) (hI:Inv w):RnK prog Q X Inv (kEx X 0) o a w:=by
 obtain ⟨s,hs,hz⟩:=hx;have hf:a.eval (.func 119)=.func (.func 119) #[] #[]:=rfl;generalize hr:a.eval=r at hs hf;refine cm_ (f:=119) (args:=#[.string s]) (by rw [hr];simp [execOp,ho,hs,hf,go_sem]) ((name_m s w).mono ?_);rintro e w' ⟨rfl,hb⟩;exact ⟨_,rfl,.of_below hb,hC.ex w w' hI (.of_below hb),hC.below hI hb,_,_,_,_,_,_,_,rfl,vts_ex0 _ _ _ _,pE_ex x_ x_ hz⟩
theorem rk_names (hC:IC d b lp X Inv) (ho:o.op=.call { callee:=.value (.func 167),args:=#[],argTypes:=#[] }) (hI:Inv w):RnK prog Q X Inv (bs_ X 5) o a w:=by
 have hf:a.eval (.func 167)=.func (.func 167) #[] #[]:=rfl;generalize hr:a.eval=r at hf;refine cm_ (f:=167) (args:=#[]) (by rw [hr];simp [execOp,ho,hf,go_sem]) ((names_m w).mono ?_);rintro e w' ⟨rfl,hz,hb,hc⟩;exact ⟨_,rfl,.of_below hb,hC.ex w w' hI (.of_below hb),hC.below hI hb,w,rfl,o_,fun h=>by have:=hC.lt w hI _ h;omega,hc⟩
theorem rk_len {x:Operand} {n:Nat} (ho:o.op=.call { callee:=.builtin .len,args:=#[x],argTypes:=#[188] }) (hx:(bs_ X n).p w (a.eval x)) (hI:Inv w):RnK prog Q X Inv (kV X (i_ n)) o a w:=by
 obtain ⟨g,e,_⟩:=hx;generalize hr:a.eval=r at e;refine bq_ (v:=i_ n) ?_ rfl hI;rw [hr];simp [execOp,ho,e,go_sem]
theorem rk_idx {x y:Operand} {n:Nat} (ho:o.op=.indexAddr 188 x y) (hx:(bs_ X n).p w (a.eval x)) (hy:(kNat X n).p w (a.eval y)) (hI:Inv w):RnK prog Q X Inv (df_ X) o a w:=by
 obtain ⟨g,e,hg,hX,hc⟩:=hx;obtain ⟨i,hi,e2⟩:=hy;obtain ⟨s,hs,hz⟩:=hc i hi;generalize hr:a.eval=r at e e2;refine bq_ (v:=.pointer (some (f_ g i))) ?_ ⟨g,i,s,rfl,hg,hX,hs,hz⟩ hI;rw [hr];have A0:(i:Int)<(n:Int):=by omega
 simp [execOp,ho,e,e2,A0,go_sem]
theorem rk_idxi {x y:Operand} {n:Nat} (ho:o.op=.indexAddr 30 x y) (hx:(kInts X n).p w (a.eval x)) (hy:(kNat X n).p w (a.eval y)) (hI:Inv w):RnK prog Q X Inv (kPInt X) o a w:=by
 obtain ⟨g,e,hg,hX,hc⟩:=hx;obtain ⟨i,hi,e2⟩:=hy;obtain ⟨s,hs,hz⟩:=hc i hi;generalize hr:a.eval=r at e e2;refine bq_ (v:=.pointer (some (f_ g i))) ?_ ⟨g,i,s,rfl,hg,hX,hs,hz⟩ hI;rw [hr];have A0:(i:Int)<(n:Int):=by omega
 simp [execOp,ho,e,e2,A0,go_sem]
theorem rk_idxi' {x y:Operand} {n:Nat} (ho:o.op=.indexAddr 30 x y) (hx:(kInts' X n).p w (a.eval x)) (hy:(kNat X n).p w (a.eval y)) (hI:Inv w):RnK prog Q X Inv (kPInt' X) o a w:=by
 obtain ⟨g,e,hg,hX,hc⟩:=hx;obtain ⟨i,hi,e2⟩:=hy;obtain ⟨s,hs⟩:=hc i hi;generalize hr:a.eval=r at e e2;refine bq_ (v:=.pointer (some (f_ g i))) ?_ ⟨g,i,s,rfl,hg,hX,hs⟩ hI;rw [hr];have A0:(i:Int)<(n:Int):=by omega
 simp [execOp,ho,e,e2,A0,go_sem]
end
theorem statement_step (kd:Int) (s f:ByteArray) (n op:Int) (A B C:OA) (m c m1 c1 m2 c2:Nat) (X:NP) (K:Nat) (hK:K<=900000000) (d:Nat) (w:World) (hp:SlP w X K pE (ay_ d) A m c) (hsz:s.size<=100/\f.size<=100) :
  Calls prog 202 #[.agg #[i_ kd,.string s,.string f,i_ n,i_ op,.slice A m c,.slice B m1 c1,.slice C m2 c2]] w fun e w'=>RB e/\Below w w w':=by
 obtain ⟨W,hW,A7,Ae,B0⟩:=af_ w [i_ kd,.string s,.string f,i_ n,i_ op,.slice A m c,.slice B m1 c1,.slice C m2 c2] 212;have KC:=h_ (∀ w',Below W W w'->StB w' w kd s f n op A B C m c m1 c1 m2 c2) (fun w' hb =>
  ⟨(B0.below hb).2.1 0 _ rfl,(B0.below hb).2.1 1 _ rfl,(B0.below hb).2.1 2 _ rfl,(B0.below hb).2.1 3 _ rfl,(B0.below hb).2.1 4 _ rfl,(B0.below hb).2.1 5 _ rfl,(B0.below hb).2.1 6 _ rfl,(B0.below hb).2.1 7 _ rfl⟩)
 have HW:=q_ A7;have HP:=q_ hp;have HS:=q_ hsz;have Ah:=hp.sl.le;obtain ⟨x0,x1,x2,x3,x4,x5,x6,x7⟩:=KC.o W (b_);clear B0 A7 hp hsz;go_enter func202,ntmps202;go_upto_region 1 with fail;rw [<-hW];clear hW;go_wp2_with fail;refine (parts_any kd W).mono ?_;rintro e W1 ⟨⟨q3,b4,b5,b6,b7,b8,b9,Ab,rfl⟩,A5⟩;have H1:=q_ A5;clear x0 x1 x2 x3 x4 x5 x6 x7 A5;obtain ⟨x0,x1,x2,x3,x4,x5,x6,x7⟩:=KC.o W1 H1.o;cases Ab
 case false =>
  go_wp2;go_ret;exact ⟨⟨_,rfl⟩,zf_⟩
 go_upto_region 2 with fail;go_cut [45] (fun v wx=>∃ b:Bool,v=.bool b/\Hid (wx=W1))
 case first =>
  go_wp2;all_goals
   go_meet;exact ⟨_,rfl,q_ rfl⟩
 rename World=>wx
 obtain ⟨b,rfl,A9⟩:=hcut;have hw:=A9.o;subst hw;clear A9;cases b
 case true =>
  go_wp2;go_ret;exact ⟨⟨_,rfl⟩,zf_⟩
 go_upto_region 5 with fail;go_loopw [49] (fun i wr=>∃ k:Nat,k<=m/\i=i_ k/\Hid (Below wx wx wr)) (fun i _=>m - (intOf i).toNat)
 case atStart=>exact ⟨0,o_,rfl,q_ (b_)⟩
 obtain ⟨k,Ag,rfl,HR⟩:=hrel;have A2:=q_ (H1.o.trans (HR.o.mono H1.o.size));have A1:=q_ (HW.o.trans (A2.o.mono HW.o.size));have Ai:(w:Nat)<=wr:=A1.o.size;have Aj:(wx:Nat)<=wr:=HR.o.size;clear x0 x1 x2 x3 x4 x5 x6 x7;by_cases hlt:k<m
 ·have A3:(k:Int)<(m:Int):=by omega
  obtain ⟨g,o,us,rfl,hg,hX,hu,A8,hc⟩:=HP.o.el hlt;have Aa:=q_ A8;obtain ⟨Ac,n',s',Ad,A',m',c',rfl,_,_,_⟩:=A8;rw [dx_] at hc;have A0:∀ j,wr.cell? (f_ g j)=w.cell? (f_ g j):=fun j=>belc A1.o hg
  have Af:g<wr:=lt_ hg A1.o.size;have k0:wr.cell? ⟨g,o+k*5,none⟩=some (i_ Ac):=(A0 _).trans (hc 0 _ rfl);have k1:wr.cell? ⟨g,o+k*5+1,none⟩=some (i_ n'):=(A0 _).trans (hc 1 _ rfl);have k2:wr.cell? ⟨g,o+k*5+2,none⟩=some (.string s'):=(A0 _).trans (hc 2 _ rfl);have k3:wr.cell? ⟨g,o+k*5+3,none⟩=some (i_ Ad):=(A0 _).trans (hc 3 _ rfl);have k4:wr.cell? ⟨g,o+k*5+4,none⟩=some (.slice A' m' c'):=(A0 _).trans (hc 4 _ rfl);have HU:=q_ (hu.up (Kp.of_below A1.o) (l_));clear A0 hc hu;go_wp2_with (go_at_call 208;refine (Expr_any X K hK d _ _ (HU.o.up (Kp.of_below (bel (b_))) (l_)) Aa.o).mono ?_;rintro e w1 ⟨⟨r,rfl⟩,hb⟩;have A4:=h_ (Below wx wx w1) (Below.trans (b:=_) (bel HR.o) (hb.mono (by simp <;> (have:=HR.o.size;omega)))));all_goals first
   | (go_ret;exact ⟨⟨_,rfl⟩,(by repeat (first | (with_reducible exact (HW.o.trans ((H1.o.trans (A4.o.mono H1.o.size)).mono HW.o.size))) | (with_reducible refine Below.drew ?_) | (with_reducible refine below_drewN ?_ _) | (with_reducible refine Below.setCell ?_ ?_ _;rotate_left;(first | omega | (simp <;> omega))) | (with_reducible refine Below.alloc ?_ ?_ _;rotate_left;(first | omega | (simp <;> omega)))))⟩)
   | (go_roundw
      case rel=>exact ⟨k+1,o_,zb_,A4⟩
      case measure=>exact me_)
 have A3:¬(k:Int)<(m:Int):=by omega
 obtain ⟨x0,x1,x2,x3,x4,x5,x6,x7⟩:=KC.o wr A2.o;go_wp2_with fail;refine (Name_any op wr).mono ?_;rintro e W2 ⟨⟨sx,bo,rfl⟩,A6⟩;have H2:=q_ (A2.o.trans (A6.mono A2.o.size));clear x0 x1 x2 x3 x4 x5 x6 x7 A6;obtain ⟨x0,x1,x2,x3,x4,x5,x6,x7⟩:=KC.o W2 H2.o;clear x0 x1 x2 x3 x4 x5 x6 x7;go_upto_region 11 with fail;refine wp_region_list ?_;simp only [];refine abs_wp (fun a w'=>St 150 w [(14,0,none),(9,0,none),(8,0,none),(7,0,none),(6,0,none),(5,0,none),(4,0,none),(1,4,none)] a/\Below W W w') ⟨?_,H2.o⟩ (fun a w ⟨H,HI⟩=>?_)
 ·refine St.know ?_ 14 ⟨_,rfl⟩;refine St.know ?_ 9 ⟨_,rfl⟩;refine St.know ?_ 8 ⟨_,rfl⟩;refine St.know ?_ 7 ⟨_,rfl⟩;refine St.know ?_ 6 ⟨_,rfl⟩;refine St.know ?_ 5 ⟨_,rfl⟩;refine St.know ?_ 4 ⟨_,rfl⟩;refine St.know ?_ 1 rfl;exact St.start rfl rfl
 refine st_u 0 H rfl rfl d_ d_ (bf_ (.inl rfl) (H.get (t:=4) d_) HI) (fun a w H HI=>?_);refine st_u 0 H rfl rfl d_ d_ (bf_ (.inl rfl) (H.get (t:=63) d_) HI) (fun a w H HI=>?_);refine st_g 5 H HI rfl rfl d_ d_ rfl d_ d_ (fun hw=>dm_ (f:=1) rfl d_ (H.get (t:=1) d_) HI) (fun a w H HI=>?_);refine st_g 2 H HI rfl rfl d_ d_ rfl d_ d_ (fun hw=>ek_ (f:=1) d_ rfl (H.getg (t:=65) d_ hw) (KC.o _ HI).y1 ⟨_,rfl,HS.o.1⟩ HI) (fun a w H HI=>?_);refine st_g 0 H HI rfl rfl d_ d_ rfl d_ d_ (fun hw=>rn_name rfl (H.getg (t:=66) d_ hw) (fun w' hb=>HI.trans (hb.mono HI.size))) (fun a w H HI=>?_);refine st_u 0 H rfl rfl d_ d_ (bx_ rfl (H.get (t:=64) d_) (fun hc=>(H.getg (t:=67) d_ hc)) (fun _=>⟨_,rfl⟩) HI) (fun a w H HI=>?_);refine st_u 0 H rfl rfl d_ d_ (bf_ (.inl rfl) (H.get (t:=68) d_) HI) (fun a w H HI=>?_);refine st_g 0 H HI rfl rfl d_ d_ rfl d_ d_ (fun hw=>bf_ (.inl rfl) (H.get (t:=4) d_) HI) (fun a w H HI=>?_);refine st_g 0 H HI rfl rfl d_ d_ rfl d_ d_ (fun hw=>rn_not rfl (H.getg (t:=70) d_ hw) HI) (fun a w H HI=>?_);refine st_g 0 H HI rfl rfl d_ d_ rfl d_ d_ (fun hw=>bf_ (.inl rfl) (H.getg (t:=71) d_ hw) HI) (fun a w H HI=>?_);refine st_g 5 H HI rfl rfl d_ d_ rfl d_ d_ (fun hw=>dm_ (f:=1) rfl d_ (H.get (t:=1) d_) HI) (fun a w H HI=>?_);refine st_g 2 H HI rfl rfl d_ d_ rfl d_ d_ (fun hw=>ek_ (f:=1) d_ rfl (H.getg (t:=73) d_ hw) (KC.o _ HI).y1 ⟨_,rfl,HS.o.1⟩ HI) (fun a w H HI=>?_);refine st_g 0 H HI rfl rfl d_ d_ rfl d_ d_ (fun hw=>rn_eqs rfl (H.getg (t:=74) d_ hw) ⟨_,rfl,d_⟩ HI) (fun a w H HI=>?_);refine st_g 0 H HI rfl rfl d_ d_ rfl d_ d_ (fun hw=>bx_ rfl (H.getg (t:=72) d_ hw) (fun hc=>(H.getg (t:=75) d_ hc)) (fun _=>⟨_,rfl⟩) HI) (fun a w H HI=>?_);refine st_u 0 H rfl rfl d_ d_ (bx_ rfl (H.get (t:=69) d_) (fun _=>⟨_,rfl⟩) (fun hc=>(H.getg (t:=76) d_ hc)) HI) (fun a w H HI=>?_);refine st_u 0 H rfl rfl d_ d_ (bf_ (.inl rfl) (H.get (t:=77) d_) HI) (fun a w H HI=>?_);refine st_g 0 H HI rfl rfl d_ d_ rfl d_ d_ (fun hw=>bf_ (.inl rfl) (H.get (t:=5) d_) HI) (fun a w H HI=>?_);refine st_g 0 H HI rfl rfl d_ d_ rfl d_ d_ (fun hw=>bf_ (.inl rfl) (H.getg (t:=79) d_ hw) HI) (fun a w H HI=>?_);refine st_g 6 H HI rfl rfl d_ d_ rfl d_ d_ (fun hw=>dm_ (f:=2) rfl d_ (H.get (t:=1) d_) HI) (fun a w H HI=>?_);refine st_g 2 H HI rfl rfl d_ d_ rfl d_ d_ (fun hw=>ek_ (f:=2) d_ rfl (H.getg (t:=81) d_ hw) (KC.o _ HI).y2 ⟨_,rfl,HS.o.2⟩ HI) (fun a w H HI=>?_);refine st_g 0 H HI rfl rfl d_ d_ rfl d_ d_ (fun hw=>rn_name rfl (H.getg (t:=82) d_ hw) (fun w' hb=>HI.trans (hb.mono HI.size))) (fun a w H HI=>?_);refine st_g 0 H HI rfl rfl d_ d_ rfl d_ d_ (fun hw=>bx_ rfl (H.getg (t:=80) d_ hw) (fun hc=>(H.getg (t:=83) d_ hc)) (fun _=>⟨_,rfl⟩) HI) (fun a w H HI=>?_);refine st_g 0 H HI rfl rfl d_ d_ rfl d_ d_ (fun hw=>bf_ (.inl rfl) (H.getg (t:=84) d_ hw) HI) (fun a w H HI=>?_);refine st_g 0 H HI rfl rfl d_ d_ rfl d_ d_ (fun hw=>bf_ (.inl rfl) (H.get (t:=5) d_) HI) (fun a w H HI=>?_);refine st_g 0 H HI rfl rfl d_ d_ rfl d_ d_ (fun hw=>rn_not rfl (H.getg (t:=86) d_ hw) HI) (fun a w H HI=>?_)
 refine st_g 0 H HI rfl rfl d_ d_ rfl d_ d_ (fun hw=>bf_ (.inl rfl) (H.getg (t:=87) d_ hw) HI) (fun a w H HI=>?_);refine st_g 6 H HI rfl rfl d_ d_ rfl d_ d_ (fun hw=>dm_ (f:=2) rfl d_ (H.get (t:=1) d_) HI) (fun a w H HI=>?_);refine st_g 2 H HI rfl rfl d_ d_ rfl d_ d_ (fun hw=>ek_ (f:=2) d_ rfl (H.getg (t:=89) d_ hw) (KC.o _ HI).y2 ⟨_,rfl,HS.o.2⟩ HI) (fun a w H HI=>?_);refine st_g 0 H HI rfl rfl d_ d_ rfl d_ d_ (fun hw=>rn_eqs rfl (H.getg (t:=90) d_ hw) ⟨_,rfl,d_⟩ HI) (fun a w H HI=>?_);refine st_g 0 H HI rfl rfl d_ d_ rfl d_ d_ (fun hw=>bx_ rfl (H.getg (t:=88) d_ hw) (fun hc=>(H.getg (t:=91) d_ hc)) (fun _=>⟨_,rfl⟩) HI) (fun a w H HI=>?_);refine st_g 0 H HI rfl rfl d_ d_ rfl d_ d_ (fun hw=>bx_ rfl (H.getg (t:=85) d_ hw) (fun _=>⟨_,rfl⟩) (fun hc=>(H.getg (t:=92) d_ hc)) HI) (fun a w H HI=>?_);refine st_u 0 H rfl rfl d_ d_ (bx_ rfl (H.get (t:=78) d_) (fun hc=>(H.getg (t:=93) d_ hc)) (fun _=>⟨_,rfl⟩) HI) (fun a w H HI=>?_);refine st_u 0 H rfl rfl d_ d_ (bf_ (.inl rfl) (H.get (t:=94) d_) HI) (fun a w H HI=>?_);refine st_g 0 H HI rfl rfl d_ d_ rfl d_ d_ (fun hw=>bf_ (.inl rfl) (H.get (t:=6) d_) HI) (fun a w H HI=>?_);refine st_g 0 H HI rfl rfl d_ d_ rfl d_ d_ (fun hw=>bf_ (.inl rfl) (H.getg (t:=96) d_ hw) HI) (fun a w H HI=>?_);refine st_g 7 H HI rfl rfl d_ d_ rfl d_ d_ (fun hw=>dm_ (f:=3) rfl d_ (H.get (t:=1) d_) HI) (fun a w H HI=>?_);refine st_g 1 H HI rfl rfl d_ d_ rfl d_ d_ (fun hw=>ek_ (f:=3) d_ rfl (H.getg (t:=98) d_ hw) (KC.o _ HI).y3 ⟨_,rfl⟩ HI) (fun a w H HI=>?_);refine st_g 0 H HI rfl rfl d_ d_ rfl d_ d_ (fun hw=>rn_cmp d_ d_ rfl (H.getg (t:=99) d_ hw) ⟨_,rfl⟩ HI) (fun a w H HI=>?_);refine st_g 0 H HI rfl rfl d_ d_ rfl d_ d_ (fun hw=>bx_ rfl (H.getg (t:=97) d_ hw) (fun hc=>(H.getg (t:=100) d_ hc)) (fun _=>⟨_,rfl⟩) HI) (fun a w H HI=>?_);refine st_g 0 H HI rfl rfl d_ d_ rfl d_ d_ (fun hw=>bf_ (.inl rfl) (H.getg (t:=101) d_ hw) HI) (fun a w H HI=>?_);refine st_g 7 H HI rfl rfl d_ d_ rfl d_ d_ (fun hw=>dm_ (f:=3) rfl d_ (H.get (t:=1) d_) HI) (fun a w H HI=>?_);refine st_g 1 H HI rfl rfl d_ d_ rfl d_ d_ (fun hw=>ek_ (f:=3) d_ rfl (H.getg (t:=103) d_ hw) (KC.o _ HI).y3 ⟨_,rfl⟩ HI) (fun a w H HI=>?_);refine st_g 0 H HI rfl rfl d_ d_ rfl d_ d_ (fun hw=>rn_cmp d_ d_ rfl (H.getg (t:=104) d_ hw) ⟨_,rfl⟩ HI) (fun a w H HI=>?_);refine st_g 0 H HI rfl rfl d_ d_ rfl d_ d_ (fun hw=>bx_ rfl (H.getg (t:=102) d_ hw) (fun hc=>(H.getg (t:=105) d_ hc)) (fun _=>⟨_,rfl⟩) HI) (fun a w H HI=>?_);refine st_g 0 H HI rfl rfl d_ d_ rfl d_ d_ (fun hw=>bf_ (.inl rfl) (H.getg (t:=106) d_ hw) HI) (fun a w H HI=>?_);refine st_g 0 H HI rfl rfl d_ d_ rfl d_ d_ (fun hw=>bf_ (.inl rfl) (H.get (t:=6) d_) HI) (fun a w H HI=>?_);refine st_g 0 H HI rfl rfl d_ d_ rfl d_ d_ (fun hw=>rn_not rfl (H.getg (t:=108) d_ hw) HI) (fun a w H HI=>?_);refine st_g 0 H HI rfl rfl d_ d_ rfl d_ d_ (fun hw=>bf_ (.inl rfl) (H.getg (t:=109) d_ hw) HI) (fun a w H HI=>?_);refine st_g 7 H HI rfl rfl d_ d_ rfl d_ d_ (fun hw=>dm_ (f:=3) rfl d_ (H.get (t:=1) d_) HI) (fun a w H HI=>?_)
 refine st_g 1 H HI rfl rfl d_ d_ rfl d_ d_ (fun hw=>ek_ (f:=3) d_ rfl (H.getg (t:=111) d_ hw) (KC.o _ HI).y3 ⟨_,rfl⟩ HI) (fun a w H HI=>?_);refine st_g 0 H HI rfl rfl d_ d_ rfl d_ d_ (fun hw=>rn_cmp d_ d_ rfl (H.getg (t:=112) d_ hw) ⟨_,rfl⟩ HI) (fun a w H HI=>?_);refine st_g 0 H HI rfl rfl d_ d_ rfl d_ d_ (fun hw=>bx_ rfl (H.getg (t:=110) d_ hw) (fun hc=>(H.getg (t:=113) d_ hc)) (fun _=>⟨_,rfl⟩) HI) (fun a w H HI=>?_);refine st_g 0 H HI rfl rfl d_ d_ rfl d_ d_ (fun hw=>bx_ rfl (H.getg (t:=107) d_ hw) (fun _=>⟨_,rfl⟩) (fun hc=>(H.getg (t:=114) d_ hc)) HI) (fun a w H HI=>?_);refine st_u 0 H rfl rfl d_ d_ (bx_ rfl (H.get (t:=95) d_) (fun hc=>(H.getg (t:=115) d_ hc)) (fun _=>⟨_,rfl⟩) HI) (fun a w H HI=>?_);refine st_u 0 H rfl rfl d_ d_ (bf_ (.inl rfl) (H.get (t:=116) d_) HI) (fun a w H HI=>?_);refine st_g 0 H HI rfl rfl d_ d_ rfl d_ d_ (fun hw=>bf_ (.inl rfl) (H.get (t:=7) d_) HI) (fun a w H HI=>?_);refine st_g 0 H HI rfl rfl d_ d_ rfl d_ d_ (fun hw=>bf_ (.inl rfl) (H.getg (t:=118) d_ hw) HI) (fun a w H HI=>?_);refine st_g 0 H HI rfl rfl d_ d_ rfl d_ d_ (fun hw=>bf_ (.inl rfl) (H.get (t:=14) d_) HI) (fun a w H HI=>?_);refine st_g 0 H HI rfl rfl d_ d_ rfl d_ d_ (fun hw=>bx_ rfl (H.getg (t:=119) d_ hw) (fun hc=>(H.getg (t:=120) d_ hc)) (fun _=>⟨_,rfl⟩) HI) (fun a w H HI=>?_);refine st_g 0 H HI rfl rfl d_ d_ rfl d_ d_ (fun hw=>bf_ (.inl rfl) (H.getg (t:=121) d_ hw) HI) (fun a w H HI=>?_);refine st_g 0 H HI rfl rfl d_ d_ rfl d_ d_ (fun hw=>bf_ (.inl rfl) (H.get (t:=7) d_) HI) (fun a w H HI=>?_);refine st_g 0 H HI rfl rfl d_ d_ rfl d_ d_ (fun hw=>rn_not rfl (H.getg (t:=123) d_ hw) HI) (fun a w H HI=>?_);refine st_g 0 H HI rfl rfl d_ d_ rfl d_ d_ (fun hw=>bf_ (.inl rfl) (H.getg (t:=124) d_ hw) HI) (fun a w H HI=>?_);refine st_g 8 H HI rfl rfl d_ d_ rfl d_ d_ (fun hw=>dm_ (f:=4) rfl d_ (H.get (t:=1) d_) HI) (fun a w H HI=>?_);refine st_g 1 H HI rfl rfl d_ d_ rfl d_ d_ (fun hw=>ek_ (f:=4) d_ rfl (H.getg (t:=126) d_ hw) (KC.o _ HI).y4 ⟨_,rfl⟩ HI) (fun a w H HI=>?_);refine st_g 0 H HI rfl rfl d_ d_ rfl d_ d_ (fun hw=>rn_cmp d_ d_ rfl (H.getg (t:=127) d_ hw) ⟨_,rfl⟩ HI) (fun a w H HI=>?_);refine st_g 0 H HI rfl rfl d_ d_ rfl d_ d_ (fun hw=>bx_ rfl (H.getg (t:=125) d_ hw) (fun hc=>(H.getg (t:=128) d_ hc)) (fun _=>⟨_,rfl⟩) HI) (fun a w H HI=>?_);refine st_g 0 H HI rfl rfl d_ d_ rfl d_ d_ (fun hw=>bx_ rfl (H.getg (t:=122) d_ hw) (fun _=>⟨_,rfl⟩) (fun hc=>(H.getg (t:=129) d_ hc)) HI) (fun a w H HI=>?_);refine st_u 0 H rfl rfl d_ d_ (bx_ rfl (H.get (t:=117) d_) (fun hc=>(H.getg (t:=130) d_ hc)) (fun _=>⟨_,rfl⟩) HI) (fun a w H HI=>?_);refine st_u 0 H rfl rfl d_ d_ (bf_ (.inl rfl) (H.get (t:=131) d_) HI) (fun a w H HI=>?_);refine st_g 0 H HI rfl rfl d_ d_ rfl d_ d_ (fun hw=>bf_ (.inl rfl) (H.get (t:=8) d_) HI) (fun a w H HI=>?_);refine st_g 0 H HI rfl rfl d_ d_ rfl d_ d_ (fun hw=>bf_ (.inl rfl) (H.getg (t:=133) d_ hw) HI) (fun a w H HI=>?_);refine st_g 10 H HI rfl rfl d_ d_ rfl d_ d_ (fun hw=>dm_ (f:=6) rfl d_ (H.get (t:=1) d_) HI) (fun a w H HI=>?_)
 refine st_g 3 H HI rfl rfl d_ d_ rfl d_ d_ (fun hw=>ek_ (f:=6) d_ rfl (H.getg (t:=135) d_ hw) (KC.o _ HI).y6 ⟨_,_,_,rfl⟩ HI) (fun a w H HI=>?_);refine st_g 1 H HI rfl rfl d_ d_ rfl d_ d_ (fun hw=>rn_len d_ rfl (H.getg (t:=136) d_ hw) HI) (fun a w H HI=>?_);refine st_g 0 H HI rfl rfl d_ d_ rfl d_ d_ (fun hw=>rn_cmp d_ d_ rfl (H.getg (t:=137) d_ hw) ⟨_,rfl⟩ HI) (fun a w H HI=>?_);refine st_g 0 H HI rfl rfl d_ d_ rfl d_ d_ (fun hw=>bx_ rfl (H.getg (t:=134) d_ hw) (fun _=>⟨_,rfl⟩) (fun hc=>(H.getg (t:=138) d_ hc)) HI) (fun a w H HI=>?_);refine st_u 0 H rfl rfl d_ d_ (bx_ rfl (H.get (t:=132) d_) (fun hc=>(H.getg (t:=139) d_ hc)) (fun _=>⟨_,rfl⟩) HI) (fun a w H HI=>?_);refine st_u 0 H rfl rfl d_ d_ (bf_ (.inl rfl) (H.get (t:=140) d_) HI) (fun a w H HI=>?_);refine st_g 0 H HI rfl rfl d_ d_ rfl d_ d_ (fun hw=>bf_ (.inl rfl) (H.get (t:=9) d_) HI) (fun a w H HI=>?_);refine st_g 0 H HI rfl rfl d_ d_ rfl d_ d_ (fun hw=>bf_ (.inl rfl) (H.getg (t:=142) d_ hw) HI) (fun a w H HI=>?_);refine st_g 11 H HI rfl rfl d_ d_ rfl d_ d_ (fun hw=>dm_ (f:=7) rfl d_ (H.get (t:=1) d_) HI) (fun a w H HI=>?_);refine st_g 3 H HI rfl rfl d_ d_ rfl d_ d_ (fun hw=>ek_ (f:=7) d_ rfl (H.getg (t:=144) d_ hw) (KC.o _ HI).y7 ⟨_,_,_,rfl⟩ HI) (fun a w H HI=>?_);refine st_g 1 H HI rfl rfl d_ d_ rfl d_ d_ (fun hw=>rn_len d_ rfl (H.getg (t:=145) d_ hw) HI) (fun a w H HI=>?_);refine st_g 0 H HI rfl rfl d_ d_ rfl d_ d_ (fun hw=>rn_cmp d_ d_ rfl (H.getg (t:=146) d_ hw) ⟨_,rfl⟩ HI) (fun a w H HI=>?_);refine st_g 0 H HI rfl rfl d_ d_ rfl d_ d_ (fun hw=>bx_ rfl (H.getg (t:=143) d_ hw) (fun _=>⟨_,rfl⟩) (fun hc=>(H.getg (t:=147) d_ hc)) HI) (fun a w H HI=>?_);refine st_u 0 H rfl rfl d_ d_ (bx_ rfl (H.get (t:=141) d_) (fun hc=>(H.getg (t:=148) d_ hc)) (fun _=>⟨_,rfl⟩) HI) (fun a w H HI=>?_);refine st_u 0 H rfl rfl d_ d_ (bf_ (.inr rfl) (H.get (t:=149) d_) HI) (fun a w H HI=>?_);have h2:=H.get (t:=2) (k:=0) d_;obtain ⟨tm,df⟩:=a;obtain rfl:df=[]:=H.df;obtain ⟨x,hx⟩:=h2;have hx:tm.getD 2 undef=.bool x:=hx;refine wpList_nil ?_;go_wp2_with fail;refine bodyPost_ret (results_tmp za_ _ _ _) rfl ?_;rw [hx];exact ⟨⟨_,rfl⟩,HW.o.trans (HI.mono HW.o.size)⟩
section
variable {X:XE} {w:World}
theorem bg_ {d d':Nat} {v:Value} (hd:d<=d') (h:(kEx X d).p w v):(kEx X d').p w v:=by
 obtain ⟨kd,n,s,op,A,m,c,e,h1,h2⟩:=h;exact ⟨kd,n,s,op,A,m,c,e,exprT_le hd h1 h2,h2⟩
theorem di_ {d d':Nat} {v:Value} (hd:d<=d') (h:(kSt X d).p w v):(kSt X d').p w v:=by
 obtain ⟨kd,s,f,n,op,A,m,c,B,m1,c1,C,m2,c2,e,h1,h2⟩:=h;exact ⟨kd,s,f,n,op,A,m,c,B,m1,c1,C,m2,c2,e,stmtT_le hd h1 h2,h2⟩
theorem cr_ {n:Nat} {v:Value} (h:(kNat X n).p w v):(kInt X).p w v:=by
 obtain ⟨r,_,e⟩:=h;exact ⟨_,e⟩
end
section
variable {Q:Exit->Act->World->Prop} {X:XE} {Inv:World->Prop} {o:Oper} {a:Act} {w:World} {d b lp:Nat}
theorem rk_bin {x y z:Operand} {e:Nat} (hC:IC d b lp X Inv) (ho:o.op=.call { callee:=.value (.func 117),args:=#[x,y,z],argTypes:=#[3,209,209] }) (hx:(kInt X).p w (a.eval x)) (hy:(kEx X e).p w (a.eval y)) (hz:(kEx X e).p w (a.eval z)) (hI:Inv w):RnK prog Q X Inv (kEx X (e+1)) o a w:=by
 obtain ⟨q,hx⟩:=hx;obtain ⟨kd,n,s,op,A,m,c,hy,h1⟩:=hy;obtain ⟨A0,n',s',A1,A',m',c',hz,h2⟩:=hz;have hf:a.eval (.func 117)=.func (.func 117) #[] #[]:=rfl;generalize hr:a.eval=r at hx hy hz hf;refine cm_ (f:=117) (args:=#[i_ q,.agg #[i_ kd,i_ n,.string s,i_ op,.slice A m c],.agg #[i_ A0,i_ n',.string s',i_ A1,.slice A' m' c']]) xi_ ((bin_m X e q kd n s op A m c A0 n' s' A1 A' m' c' w h1 h2 (hC.lt w hI)).mono ?_);rintro e w' ⟨⟨kd,n,s,op,A,m,c,rfl,h⟩,hb⟩;exact ⟨_,rfl,.of_below hb,hC.ex w w' hI (.of_below hb),hC.below hI hb,_,_,_,_,_,_,_,rfl,h.o⟩
theorem dg_ {x y:Operand} (hC:IC d b lp X Inv) (ho:o.op=.call { callee:=.value (.func 116),args:=#[x,y],argTypes:=#[9,209] }) (hx:(kStr X).p w (a.eval x)) (hy:(kEx X dE).p w (a.eval y)) (hI:Inv w):RnK prog Q X Inv (kSt X 0) o a w:=by
 obtain ⟨t,hx,ht⟩:=hx;obtain ⟨kd,n,s,op,A,m,c,hy,h1⟩:=hy;have hf:a.eval (.func 116)=.func (.func 116) #[] #[]:=rfl;generalize hr:a.eval=r at hx hy hf;refine cm_ (f:=116) (args:=#[.string t,.agg #[i_ kd,i_ n,.string s,i_ op,.slice A m c]]) z9_ ((set_m X t kd n s op A m c w ht h1 (hC.lt w hI)).mono ?_);rintro e w' ⟨⟨kd,s,f,n,op,A,m,c,B,m1,c1,C,m2,c2,rfl,h⟩,hb⟩;exact ⟨_,rfl,.of_below hb,hC.ex w w' hI (.of_below hb),hC.below hI hb,_,_,_,_,_,_,_,_,_,_,_,_,_,_,rfl,h.o⟩
theorem av_ (w:World) (cs:Array Value) (t:TypeId):Below w w (w.alloc (.cells cs t)):=(b_).alloc (l_) _
theorem dq_ {x:Operand} {e:Nat} (hC:IC d b lp X Inv) (ho:o.op=.buildSlice 207 1 #[(0,x)]) (hx:(kEx X e).p w (a.eval x)) (hI:Inv w):RnK prog Q X Inv (kExs X e 1) o a w:=by
 obtain ⟨kd,n,s,op,A,m,c,hx,h1⟩:=hx;generalize hr:a.eval=r at hx;refine rk_to (v:=.slice (some (a_ w)) 1 1) (w':=w.alloc (.cells (exL kd n s op A m c).toArray 209)) xr_ (.of_below (av_ w _ _)) (hC.ex w _ hI (.of_below (av_ w _ _))) ?_ (hC.below hI (av_ w _ _));exact ⟨_,_,rfl,SlP.one (Bx.new w _ _) (fun h=>by have:=hC.lt w hI _ h;omega) d_ (h1.1.up (.of_below (av_ w _ _)) (l_)) h1.2⟩
theorem rk_bse2 {x y:Operand} {e:Nat} (hC:IC d b lp X Inv) (ho:o.op=.buildSlice 207 2 #[(0,x),(1,y)]) (hx:(kEx X e).p w (a.eval x)) (hy:(kEx X e).p w (a.eval y)) (hI:Inv w):RnK prog Q X Inv (kExs X e 2) o a w:=by
 obtain ⟨kd,n,s,op,A,m,c,hx,h1⟩:=hx;obtain ⟨A0,n',s',A1,A',m',c',hy,h2⟩:=hy;generalize hr:a.eval=r at hx hy;refine rk_to (v:=.slice (some (a_ w)) 2 2) (w':=w.alloc (.cells (exL kd n s op A m c ++ exL A0 n' s' A1 A' m' c').toArray 209)) (by rw [hr];simp [execOp,ho,hx,hy,go_sem];rfl) (.of_below (av_ w _ _)) (hC.ex w _ hI (.of_below (av_ w _ _))) ?_ (hC.below hI (av_ w _ _));exact ⟨_,_,rfl,SlP.two (Bx.new w _ _) (fun h=>by have:=hC.lt w hI _ h;omega) d_ (h1.1.up (.of_below (av_ w _ _)) (l_)) h1.2 (h2.1.up (.of_below (av_ w _ _)) (l_)) h2.2⟩
theorem rk_bst1 {s0:ByteArray} (hC:IC d b lp X Inv) (ho:o.op=.buildSlice 188 1 #[(0,.const (.string s0))]) (h0:s0.size<=100) (hI:Inv w):RnK prog Q X Inv (bs_ X 1) o a w:=by
 have e0:a.eval (.const (.string s0))=.string s0:=rfl;refine rk_to (v:=.slice (some (a_ w)) 1 1) (w':=w.alloc (.cells #[.string s0] 9)) (by generalize a.eval=r at e0;simp [execOp,ho,e0,go_sem]) (.of_below (av_ w _ _)) (hC.ex w _ hI (.of_below (av_ w _ _))) ?_ (hC.below hI (av_ w _ _));refine ⟨w,rfl,zj_,fun h=>by have:=hC.lt w hI _ h;omega,fun i hi=>?_⟩
 match i,hi with
 | 0,_=>exact ⟨_,zg_,h0⟩
theorem rk_bst2 {s0 s1:ByteArray} (hC:IC d b lp X Inv) (ho:o.op=.buildSlice 188 2 #[(0,.const (.string s0)),(1,.const (.string s1))]) (h0:s0.size<=100) (h1:s1.size<=100) (hI:Inv w):RnK prog Q X Inv (bs_ X 2) o a w:=by
 have e0:a.eval (.const (.string s0))=.string s0:=rfl;have e1:a.eval (.const (.string s1))=.string s1:=rfl;refine rk_to (v:=.slice (some (a_ w)) 2 2) (w':=w.alloc (.cells #[.string s0,.string s1] 9)) wl_ (.of_below (av_ w _ _)) (hC.ex w _ hI (.of_below (av_ w _ _))) ?_ (hC.below hI (av_ w _ _));refine ⟨w,rfl,zj_,fun h=>by have:=hC.lt w hI _ h;omega,fun i hi=>?_⟩
 match i,hi with
 | 0,_=>exact ⟨_,zg_,h0⟩
 | 1,_=>exact ⟨_,zg_,h1⟩
theorem rk_bst3 {s0 s1 s2:ByteArray} (hC:IC d b lp X Inv) (ho:o.op=.buildSlice 188 3 #[(0,.const (.string s0)),(1,.const (.string s1)),(2,.const (.string s2))]) (h0:s0.size<=100) (h1:s1.size<=100) (h2:s2.size<=100) (hI:Inv w):RnK prog Q X Inv (bs_ X 3) o a w:=by
 have e0:a.eval (.const (.string s0))=.string s0:=rfl;have e1:a.eval (.const (.string s1))=.string s1:=rfl;have e2:a.eval (.const (.string s2))=.string s2:=rfl;refine rk_to (v:=.slice (some (a_ w)) 3 3) (w':=w.alloc (.cells #[.string s0,.string s1,.string s2] 9)) (by generalize a.eval=r at e0 e1 e2;simp [execOp,ho,e0,e1,e2,go_sem]) (.of_below (av_ w _ _)) (hC.ex w _ hI (.of_below (av_ w _ _))) ?_ (hC.below hI (av_ w _ _));refine ⟨w,rfl,zj_,fun h=>by have:=hC.lt w hI _ h;omega,fun i hi=>?_⟩
 match i,hi with
 | 0,_=>exact ⟨_,zg_,h0⟩
 | 1,_=>exact ⟨_,zg_,h1⟩
 | 2,_=>exact ⟨_,zg_,h2⟩
theorem rk_bsi2 {s0 s1:Int} (hC:IC d b lp X Inv) (ho:o.op=.buildSlice 30 2 #[(0,.const (i_ s0)),(1,.const (i_ s1))]) (h0:s0≠3/\s0≠5/\s0≠6) (h1:s1≠3/\s1≠5/\s1≠6) (hI:Inv w):RnK prog Q X Inv (kInts X 2) o a w:=by
 have e0:a.eval (.const (i_ s0))=i_ s0:=rfl;have e1:a.eval (.const (i_ s1))=i_ s1:=rfl;refine rk_to (v:=.slice (some (a_ w)) 2 2) (w':=w.alloc (.cells #[i_ s0,i_ s1] 3)) wl_ (.of_below (av_ w _ _)) (hC.ex w _ hI (.of_below (av_ w _ _))) ?_ (hC.below hI (av_ w _ _));refine ⟨w,rfl,zj_,fun h=>by have:=hC.lt w hI _ h;omega,fun i hi=>?_⟩
 match i,hi with
 | 0,_=>exact ⟨_,zg_,h0⟩
 | 1,_=>exact ⟨_,zg_,h1⟩
theorem rk_bsi4' {s0 s1 s2 s3:Int} (hC:IC d b lp X Inv) (ho:o.op=.buildSlice 30 4 #[(0,.const (i_ s0)),(1,.const (i_ s1)),(2,.const (i_ s2)),(3,.const (i_ s3))]) (hI:Inv w):RnK prog Q X Inv (kInts' X 4) o a w:=by
 have e0:a.eval (.const (i_ s0))=i_ s0:=rfl;have e1:a.eval (.const (i_ s1))=i_ s1:=rfl;have e2:a.eval (.const (i_ s2))=i_ s2:=rfl;have e3:a.eval (.const (i_ s3))=i_ s3:=rfl;refine rk_to (v:=.slice (some (a_ w)) 4 4) (w':=w.alloc (.cells #[i_ s0,i_ s1,i_ s2,i_ s3] 3)) (by generalize a.eval=r at e0 e1 e2 e3;simp [execOp,ho,e0,e1,e2,e3,go_sem]) (.of_below (av_ w _ _)) (hC.ex w _ hI (.of_below (av_ w _ _))) ?_ (hC.below hI (av_ w _ _));refine ⟨w,rfl,zj_,fun h=>by have:=hC.lt w hI _ h;omega,fun i hi=>?_⟩
 match i,hi with
 | 0,_=>exact ⟨_,zg_⟩
 | 1,_=>exact ⟨_,zg_⟩
 | 2,_=>exact ⟨_,zg_⟩
 | 3,_=>exact ⟨_,zg_⟩
theorem rk_be1 {x:Operand} {kd:Int} (ho:o.op=.build 209 #[(0,.const (i_ kd)),(1,x)]) (hk:kd≠4/\kd≠5) (hx:(kInt X).p w (a.eval x)) (hI:Inv w):RnK prog Q X Inv (kEx X 0) o a w:=by
 obtain ⟨n,hx⟩:=hx;have e0:a.eval (.const (i_ kd))=i_ kd:=rfl;generalize hr:a.eval=r at hx e0;exact bq_ (v:=.agg #[i_ kd,i_ n,.string ⟨#[]⟩,i_ 0,.slice none 0 0]) yt_ ⟨_,_,_,_,_,_,_,rfl,vts_ex0 _ _ _ _,pE_ex (fun h=>absurd h hk.1) (fun h=>absurd h hk.2) d_⟩ hI
theorem rk_be3 {x y:Operand} {e:Nat} (ho:o.op=.build 209 #[(0,.const (i_ 4)),(1,x),(4,y)]) (hx:(kInt X).p w (a.eval x)) (hy:(kExs X e 1).p w (a.eval y)) (hI:Inv w):RnK prog Q X Inv (kEx X (e+1)) o a w:=by
 obtain ⟨n,hx⟩:=hx;obtain ⟨A,c,hy,hs⟩:=hy;have e0:a.eval (.const (i_ 4))=i_ 4:=rfl;generalize hr:a.eval=r at hx hy e0;exact bq_ (v:=.agg #[i_ 4,i_ n,.string ⟨#[]⟩,i_ 0,.slice A 1 c]) xp_ ⟨_,_,_,_,_,_,_,rfl,vts_ex hs,pE_ex (fun _=>l_) x_ d_⟩ hI
theorem rk_bs_0145 {x0 x1 x4 x5:Operand} {kd:Int} {m:Nat} (ho:o.op=.build 212 #[(0,x0),(1,x1),(4,x4),(5,x5)]) (h0:a.eval x0=i_ kd) (h1:(kStr X).p w (a.eval x1)) (h4:(kInt X).p w (a.eval x4)) (h5:(kExs X dE m).p w (a.eval x5)) (g5:kd=5->2<=m) (g6:kd=6->1<=m) (g3:kd=3->(⟨#[]⟩:ByteArray)=nameF\/(⟨#[]⟩:ByteArray)=nameG) (hI:Inv w):RnK prog Q X Inv (kSt X 0) o a w:=by
 obtain ⟨s,h1,hs⟩:=h1;obtain ⟨op,h4⟩:=h4;obtain ⟨A,c,h5,v5⟩:=h5;generalize hr:a.eval=r at h0 h1 h4 h5;exact bq_ (v:=.agg #[i_ kd,.string s,.string ⟨#[]⟩,i_ 0,i_ op,.slice A m c,.slice none 0 0,.slice none 0 0]) (by rw [hr];simp [execOp,ho,h0,h1,h4,h5,go_sem]) ⟨_,_,_,_,_,_,_,_,_,_,_,_,_,_,rfl,ec_ v5,pS_st g5 g6 g3 hs d_⟩ hI
theorem rk_bs_035 {x0 x3 x5:Operand} {kd:Int} {m:Nat} (ho:o.op=.build 212 #[(0,x0),(3,x3),(5,x5)]) (h0:a.eval x0=i_ kd) (h3:(kInt X).p w (a.eval x3)) (h5:(kExs X dE m).p w (a.eval x5)) (g5:kd=5->2<=m) (g6:kd=6->1<=m) (g3:kd=3->(⟨#[]⟩:ByteArray)=nameF\/(⟨#[]⟩:ByteArray)=nameG) (hI:Inv w):RnK prog Q X Inv (kSt X 0) o a w:=by
 obtain ⟨n,h3⟩:=h3;obtain ⟨A,c,h5,v5⟩:=h5;generalize hr:a.eval=r at h0 h3 h5;exact bq_ (v:=.agg #[i_ kd,.string ⟨#[]⟩,.string ⟨#[]⟩,i_ n,i_ 0,.slice A m c,.slice none 0 0,.slice none 0 0]) (by rw [hr];simp [execOp,ho,h0,h3,h5,go_sem]) ⟨_,_,_,_,_,_,_,_,_,_,_,_,_,_,rfl,ec_ v5,pS_st g5 g6 g3 d_ d_⟩ hI
theorem rk_bs_05 {x0 x5:Operand} {kd:Int} {m:Nat} (ho:o.op=.build 212 #[(0,x0),(5,x5)]) (h0:a.eval x0=i_ kd) (h5:(kExs X dE m).p w (a.eval x5)) (g5:kd=5->2<=m) (g6:kd=6->1<=m) (g3:kd=3->(⟨#[]⟩:ByteArray)=nameF\/(⟨#[]⟩:ByteArray)=nameG) (hI:Inv w):RnK prog Q X Inv (kSt X 0) o a w:=by
 obtain ⟨A,c,h5,v5⟩:=h5;generalize hr:a.eval=r at h0 h5;exact bq_ (v:=.agg #[i_ kd,.string ⟨#[]⟩,.string ⟨#[]⟩,i_ 0,i_ 0,.slice A m c,.slice none 0 0,.slice none 0 0]) (by rw [hr];simp [execOp,ho,h0,h5,go_sem]) ⟨_,_,_,_,_,_,_,_,_,_,_,_,_,_,rfl,ec_ v5,pS_st g5 g6 g3 d_ d_⟩ hI
theorem rk_bs_015 {x0 x1 x5:Operand} {kd:Int} {m:Nat} (ho:o.op=.build 212 #[(0,x0),(1,x1),(5,x5)]) (h0:a.eval x0=i_ kd) (h1:(kStr X).p w (a.eval x1)) (h5:(kExs X dE m).p w (a.eval x5)) (g5:kd=5->2<=m) (g6:kd=6->1<=m) (g3:kd=3->(⟨#[]⟩:ByteArray)=nameF\/(⟨#[]⟩:ByteArray)=nameG) (hI:Inv w):RnK prog Q X Inv (kSt X 0) o a w:=by
 obtain ⟨s,h1,hs⟩:=h1;obtain ⟨A,c,h5,v5⟩:=h5;generalize hr:a.eval=r at h0 h1 h5;exact bq_ (v:=.agg #[i_ kd,.string s,.string ⟨#[]⟩,i_ 0,i_ 0,.slice A m c,.slice none 0 0,.slice none 0 0]) (by rw [hr];simp [execOp,ho,h0,h1,h5,go_sem]) ⟨_,_,_,_,_,_,_,_,_,_,_,_,_,_,rfl,ec_ v5,pS_st g5 g6 g3 hs d_⟩ hI
theorem rk_bs_0125 {x0 x1 x2 x5:Operand} {kd:Int} {f:ByteArray} {m:Nat} (ho:o.op=.build 212 #[(0,x0),(1,x1),(2,x2),(5,x5)]) (h0:a.eval x0=i_ kd) (h1:(kStr X).p w (a.eval x1)) (h2:a.eval x2=.string f) (hf:f.size<=100) (h5:(kExs X dE m).p w (a.eval x5)) (g5:kd=5->2<=m) (g6:kd=6->1<=m) (g3:kd=3->f=nameF\/f=nameG) (hI:Inv w):RnK prog Q X Inv (kSt X 0) o a w:=by
 obtain ⟨s,h1,hs⟩:=h1;obtain ⟨A,c,h5,v5⟩:=h5;generalize hr:a.eval=r at h0 h1 h2 h5;exact bq_ (v:=.agg #[i_ kd,.string s,.string f,i_ 0,i_ 0,.slice A m c,.slice none 0 0,.slice none 0 0]) (by rw [hr];simp [execOp,ho,h0,h1,h2,h5,go_sem]) ⟨_,_,_,_,_,_,_,_,_,_,_,_,_,_,rfl,ec_ v5,pS_st g5 g6 g3 hs hf⟩ hI
theorem rk_bs_0567 {x0 x5 x6 x7:Operand} {kd:Int} {m:Nat} {e q6 q7:Nat} (ho:o.op=.build 212 #[(0,x0),(5,x5),(6,x6),(7,x7)]) (h0:a.eval x0=i_ kd) (h5:(kExs X dE m).p w (a.eval x5)) (h6:(kSts X e q6).p w (a.eval x6)) (h7:(kSts X e q7).p w (a.eval x7)) (g5:kd=5->2<=m) (g6:kd=6->1<=m) (g3:kd=3->(⟨#[]⟩:ByteArray)=nameF\/(⟨#[]⟩:ByteArray)=nameG) (hI:Inv w):RnK prog Q X Inv (kSt X (e+1)) o a w:=by
 obtain ⟨A,c,h5,v5⟩:=h5;obtain ⟨B,m1,c1,h6,_,v6⟩:=h6;obtain ⟨C,m2,c2,h7,_,v7⟩:=h7;generalize hr:a.eval=r at h0 h5 h6 h7;exact bq_ (v:=.agg #[i_ kd,.string ⟨#[]⟩,.string ⟨#[]⟩,i_ 0,i_ 0,.slice A m c,.slice B m1 c1,.slice C m2 c2]) (by rw [hr];simp [execOp,ho,h0,h5,h6,h7,go_sem]) ⟨_,_,_,_,_,_,_,_,_,_,_,_,_,_,rfl,vts_st v5 v6 v7,pS_st g5 g6 g3 d_ d_⟩ hI
theorem rk_bs_0167 {x0 x1 x6 x7:Operand} {kd:Int} {e q6 q7:Nat} (ho:o.op=.build 212 #[(0,x0),(1,x1),(6,x6),(7,x7)]) (h0:a.eval x0=i_ kd) (h1:(kStr X).p w (a.eval x1)) (h6:(kSts X e q6).p w (a.eval x6)) (h7:(kSts X e q7).p w (a.eval x7)) (g5:kd=5->2<=0) (g6:kd=6->1<=0) (g3:kd=3->(⟨#[]⟩:ByteArray)=nameF\/(⟨#[]⟩:ByteArray)=nameG) (hI:Inv w):RnK prog Q X Inv (kSt X (e+1)) o a w:=by
 obtain ⟨s,h1,hs⟩:=h1;obtain ⟨B,m1,c1,h6,_,v6⟩:=h6;obtain ⟨C,m2,c2,h7,_,v7⟩:=h7;generalize hr:a.eval=r at h0 h1 h6 h7;exact bq_ (v:=.agg #[i_ kd,.string s,.string ⟨#[]⟩,i_ 0,i_ 0,.slice none 0 0,.slice B m1 c1,.slice C m2 c2]) (by rw [hr];simp [execOp,ho,h0,h1,h6,h7,go_sem]) ⟨_,_,_,_,_,_,_,_,_,_,_,_,_,_,rfl,vts_st (SlP.nil _ _ _ _ _) v6 v7,pS_st g5 g6 g3 hs d_⟩ hI
end
structure InvR (d b lp:Nat) (X Z:NP) (w0:World) (rb:Nat) (ts:List CT) (pp:VL->Prop) (w:World):Prop where
 ok:Mk d b lp w
 kp:Kp Z w0 w
 lt:∀ k,X k->k<w
 bx:∃ cs,Bx w rb cs/\VTs w X 20 ts cs/\pp cs
section
variable {Q:Exit->Act->World->Prop} {X Z:NP} {o:Oper} {a:Act} {w w0:World} {d b lp rb:Nat} {ts:List CT} {pp:VL->Prop}
theorem InvR.ic {E:World->Prop} (he:∀ w w':World,Kp (Zm d b) w w'->E w->E w') (hz:∀ k,Zm d b k->X k) (hZ:∀ k,Zm d b k->Z k) (hr:¬Zm d b rb):IC d b lp ⟨X,E⟩ (InvR d b lp X Z w0 rb ts pp) :=
 ⟨fun _ h=>h.ok,hz,fun _ h=>h.lt,fun w w' h hm hk=>⟨hm,h.kp.trans (hk.mono (fun k _ hk=>hZ k hk)),fun k A0=>lt_ (h.lt k A0) hk.size,by
  obtain ⟨cs,h1,h2,h3⟩:=h.bx
  exact ⟨cs,h1.kp hk hr,h2.up (hk.mono (fun k _ hk=>hz k hk)) (l_),h3⟩⟩,fun w w' _ hk h=>he w w' hk h⟩
theorem Mk.sets {w:World} (h:Mk d b lp w) (hr:b<rb) (vs:VL):Mk d b lp (w.setCells rb 0 vs):=by
 have hk:Kp (fun k=>k=rb) w (w.setCells rb 0 vs):=ag_ _ _ _ (Kp.refl _ _) (.inl rfl);obtain ⟨l,h1⟩:=h.c1;obtain ⟨f,h3⟩:=h.c3;have hd:=h.ne;have hc:∀ q j,q<=b->(w.setCells rb 0 vs).cell? (f_ q j)=w.cell? (f_ q j):=fun q j hq=>hk.cell (by have:=h.lt;omega) o_
 exact vl_
theorem InvR.put {w:World} (h:InvR d b lp X Z w0 rb ts pp w) (hr:b<rb) (hX:X rb) (hZ:Z rb) {vs:VL} (hv:VTs w X 20 ts vs) (hp:pp vs):InvR d b lp X Z w0 rb ts pp (w.setCells rb 0 vs)/\Kp X w (w.setCells rb 0 vs):=by
 have hk:Kp X w (w.setCells rb 0 vs):=ag_ _ _ _ (Kp.refl _ _) (.inl hX);obtain ⟨cs,h1,h2,h3⟩:=h.bx;exact ⟨⟨h.ok.sets hr vs,ag_ _ _ _ h.kp (.inl hZ),fun k A0=>lt_ (h.lt k A0) hk.size,vs,h1.all vs (by rw [hv.1,h2.1]),hv.up hk (l_),hp⟩,hk⟩
theorem rk_store {E:World->Prop} (he:∀ vs:VL,E w->E (w.setCells rb 0 vs)) {x y:Operand} {T:TypeId} {vs:VL} (hr:b<rb) (hX:X rb) (hZ:Z rb) (ho:o.op=.store T x y) (hx:a.eval x=.pointer (some (a_ rb))) (hy:a.eval y=.agg vs.toArray) (hi:(prog.info? T).map (·.size)=some ts.length) (hv:VTs w X 20 ts vs) (hp:pp vs) (hI:InvR d b lp X Z w0 rb ts pp w):RnK prog Q ⟨X,E⟩ (InvR d b lp X Z w0 rb ts pp) (kAny ⟨X,E⟩) o a w:=fun K hK=>by
 obtain ⟨h1,h2⟩:=hI.put hr hX hZ hv hp;obtain ⟨cs,g1,g2,g3⟩:=hI.bx;refine wp_store_mid T x y ho rb 0 vs.toArray hx hy ?_ ?_ ?_ ?_
 ·rw [List.size_toArray];exact g1.there (by rw [hv.1,g2.1];omega)
 ·rw [List.size_toArray,hv.1];exact hi
 ·simpa using hv.one
 exact hK _ _ wi_ (by simpa using he vs) (by simpa using h1) trivial
theorem isz5:(prog.info? 209).map (·.size)=some 5:=by kernel_rfl
theorem isz8:(prog.info? 212).map (·.size)=some 8:=by kernel_rfl
theorem dc_ {E:World->Prop} (he:∀ vs:VL,E w->E (w.setCells rb 0 vs)) {x y:Operand} {e:Nat} (hr:b<rb) (hX:X rb) (hZ:Z rb) (ho:o.op=.store 209 x y) (hx:a.eval x=.pointer (some (a_ rb))) (hy:(kEx ⟨X,E⟩ e).p w (a.eval y)) (hI:InvR d b lp X Z w0 rb (ay_ e) pE w):RnK prog Q ⟨X,E⟩ (InvR d b lp X Z w0 rb (ay_ e) pE) (kAny ⟨X,E⟩) o a w:=by
 obtain ⟨kd,n,s,op,A,m,c,hy,h1⟩:=hy;exact rk_store he hr hX hZ ho hx hy (by rw [dx_];exact isz5) h1.1 h1.2 hI
theorem bi_ {E:World->Prop} (he:∀ vs:VL,E w->E (w.setCells rb 0 vs)) {x y:Operand} {e:Nat} (hr:b<rb) (hX:X rb) (hZ:Z rb) (ho:o.op=.store 212 x y) (hx:a.eval x=.pointer (some (a_ rb))) (hy:(kSt ⟨X,E⟩ e).p w (a.eval y)) (hI:InvR d b lp X Z w0 rb (ah_ e) pS w):RnK prog Q ⟨X,E⟩ (InvR d b lp X Z w0 rb (ah_ e) pS) (kAny ⟨X,E⟩) o a w:=by
 obtain ⟨kd,s,f,n,op,A,m,c,B,m1,c1,C,m2,c2,hy,h1⟩:=hy;exact rk_store he hr hX hZ ho hx hy (by rw [by_];exact isz8) h1.1 h1.2 hI
end
end Go.Proofs.YtfolidlmgfhkiaaGreat
namespace Go.Proofs.YtfolidlmgfhkiaaGreat.Sq
open Go.RowKit
section
variable {w:World} {X:NP} {K:Nat}
theorem cells_of {A:OA} {n c:Nat} (h:SlT w X K ap_ A n c):∃ l:List Cl,Sl w w 4 Cl.cells A n l:=by
 obtain ⟨l,hl,_⟩:=h.list Cl.cells (fun _=>True) (fun vs hv=>by
  obtain ⟨a,r1,rfl,ha,h1⟩:=hv.head
  obtain ⟨b,r2,rfl,hb,h2⟩:=h1.head
  obtain ⟨c,r3,rfl,hc,h3⟩:=h2.head
  obtain ⟨d,r4,rfl,hd,h4⟩:=h3.head
  obtain ⟨x,rfl⟩:=ha.int
  obtain ⟨y,rfl⟩:=hb.int
  obtain ⟨z,rfl⟩:=hc.bool
  obtain ⟨u,rfl⟩:=hd.int
  rw [h4.end]
  exact ⟨⟨x,y,z,u⟩,rfl,trivial⟩)
 exact ⟨l,hl⟩
theorem deltas_of {A:OA} {n c:Nat} (h:SlT w X K bj_ A n c):∃ l:List Dt,Sl w w 5 Dt.cells A n l:=by
 obtain ⟨l,hl,_⟩:=h.list Dt.cells (fun _=>True) (fun vs hv=>by
  obtain ⟨a,r1,rfl,ha,h1⟩:=hv.head
  obtain ⟨b,r2,rfl,hb,h2⟩:=h1.head
  obtain ⟨o,r5,rfl,ho,h5⟩:=h2.head
  obtain ⟨c,r3,rfl,hc,h3⟩:=h5.head
  obtain ⟨d,r4,rfl,hd,h4⟩:=h3.head
  obtain ⟨x,rfl⟩:=ha.int
  obtain ⟨y,rfl⟩:=hb.int
  obtain ⟨q,rfl⟩:=ho.int
  obtain ⟨z,rfl⟩:=hc.bool
  obtain ⟨u,rfl⟩:=hd.int
  rw [h4.end]
  exact ⟨⟨x,y,q,z,u⟩,rfl,trivial⟩)
 exact ⟨l,hl⟩
theorem acts_of {A:OA} {n c:Nat} (h:SlT w X K actT A n c):∃ l:List Ac,Sl w w 3 Ac.cells A n l:=by
 obtain ⟨l,hl,_⟩:=h.list Ac.cells (fun _=>True) (fun vs hv=>by
  obtain ⟨a,r1,rfl,ha,h1⟩:=hv.head
  obtain ⟨b,r2,rfl,hb,h2⟩:=h1.head
  obtain ⟨c,r3,rfl,hc,h3⟩:=h2.head
  obtain ⟨x,rfl⟩:=ha.bool
  obtain ⟨y,rfl⟩:=hb.int
  obtain ⟨z,rfl⟩:=hc.int
  rw [h3.end]
  exact ⟨⟨x,y,z⟩,rfl,trivial⟩)
 exact ⟨l,hl⟩
theorem sq_of {vs:VL} (h:VTs w X K ae_ vs) (hK:K<=1000000):∃ t:Tk,t.cells=vs/\Rt w t:=by
 obtain ⟨GA,gn,gc,g0,g1⟩:=h.slc (j:=36) (e:=ap_) rfl;obtain ⟨RA,rn,rc,r0,r1⟩:=h.slc (j:=37) (e:=ap_) rfl;obtain ⟨WA,wn,wc,w0,w1⟩:=h.slc (j:=38) (e:=ap_) rfl;obtain ⟨NA,nn,nc,n0,n1⟩:=h.slc (j:=39) (e:=objT) rfl;obtain ⟨DA,dn,dc,d0,d1⟩:=h.slc (j:=40) (e:=bj_) rfl;obtain ⟨AA,an,ac,a0,a1⟩:=h.slc (j:=41) (e:=actT) rfl;obtain ⟨gs,hg⟩:=cells_of g1;obtain ⟨rs,hr⟩:=cells_of r1;obtain ⟨ws,hw⟩:=cells_of w1;obtain ⟨ns,hn,hv⟩:=n1.hp o_;obtain ⟨ds,hd⟩:=deltas_of d1;obtain ⟨la,ha⟩:=acts_of a1;exact ⟨⟨RA,rn,rc,WA,wn,wc,NA,nn,nc,DA,dn,dc,rs,ws,ns,ds,vs,h.1,r0,w0,n0,d0,List.all_eq_true.2 h.one⟩,rfl,
  ⟨⟨hr,Nat.le_trans r1.le hK,hw,Nat.le_trans w1.le hK,hn.sl,Nat.le_trans n1.le hK,hd,Nat.le_trans d1.le hK⟩,⟨GA,gn,gc,gs,g0,hg,Nat.le_trans g1.le hK⟩,⟨AA,an,ac,la,a0,ha,Nat.le_trans a1.le hK⟩,fun o ho=>⟨(hn.obs o ho).1,Nat.le_trans (hv o ho).le hK⟩⟩⟩
theorem sqs_of {A:OA} {n c:Nat} (h:SlT w X K ae_ A n c) (hK:K<=1000000):∃ l:List Tk,Sl w w 48 Tk.cells A n l/\∀ t ∈ l,Rt w t:=by
 obtain ⟨l,hl,hP⟩:=h.list Tk.cells (fun t=>Rt w t) (fun vs hv=>sq_of hv hK);exact ⟨l,hl,hP⟩
end
end Go.Proofs.YtfolidlmgfhkiaaGreat.Sq
namespace Go.Proofs.YtfolidlmgfhkiaaGreat
open Go.RowKit Go.Proofs.Tryz
section
variable {Q:Exit->Act->World->Prop} {X:XE} {Inv:World->Prop} {o:Oper} {a:Act} {w:World} {d b lp:Nat}
theorem rk_add {x y:Operand} {T:TypeId} (hT:T=3\/T=2) (ho:o.op=.binOp .add T x y T) (hx:(kInt X).p w (a.eval x)) (hy:(kInt X).p w (a.eval y)) (hI:Inv w):RnK prog Q X Inv (kInt X) o a w:=by
 obtain ⟨m,hx⟩:=hx;obtain ⟨n,hy⟩:=hy;generalize hr:a.eval=r at hx hy;exact bq_ (v:=i_ (IntKind.i64.wrap (m+n))) wg_ ⟨_,rfl⟩ hI
theorem rk_sub {x y:Operand} {T:TypeId} (hT:T=3\/T=2) (ho:o.op=.binOp .sub T x y T) (hx:(kInt X).p w (a.eval x)) (hy:(kInt X).p w (a.eval y)) (hI:Inv w):RnK prog Q X Inv (kInt X) o a w:=by
 obtain ⟨m,hx⟩:=hx;obtain ⟨n,hy⟩:=hy;generalize hr:a.eval=r at hx hy;exact bq_ (v:=i_ (IntKind.i64.wrap (m - n))) wg_ ⟨_,rfl⟩ hI
theorem rk_inc {x:Operand} {n:Nat} (hn:n<=1000) (ho:o.op=.binOp .add 3 x (.const (i_ 1)) 3) (hx:a.eval x=i_ n) (hI:Inv w):RnK prog Q X Inv (kV X (i_ ((n+1:Nat):Int))) o a w:=by
 have hw:IntKind.i64.wrap ((n:Int)+1)=((n+1:Nat):Int):=by rw [IntKind.wrap_i64];omega
 have e0:a.eval (.const (i_ 1))=i_ 1:=rfl;generalize hr:a.eval=r at hx e0;exact bq_ (v:=i_ ((n+1:Nat):Int)) (by rw [hr];simp [execOp,ho,hx,e0,hw,go_sem]) rfl hI
theorem rk_dec {x:Operand} {n:Nat} (ho:o.op=.binOp .sub 3 x (.const (i_ 1)) 3) (hx:a.eval x=i_ ((n+1:Nat):Int)) (hn:n<=1000) (hI:Inv w):RnK prog Q X Inv (kV X (i_ (n:Int))) o a w:=by
 have hw:IntKind.i64.wrap (n:Int)=(n:Int):=by rw [IntKind.wrap_i64];omega
 have e0:a.eval (.const (i_ 1))=i_ 1:=rfl;generalize hr:a.eval=r at hx e0;exact bq_ (v:=i_ (n:Int)) (by rw [hr];simp [execOp,ho,hx,e0,hw,go_sem]) rfl hI
theorem rk_rem {x:Operand} {n:Nat} (ho:o.op=.binOp .rem 3 x (.const (i_ 3)) 3) (hx:a.eval x=i_ n) (hI:Inv w):RnK prog Q X Inv (kNat X 3) o a w:=by
 have hw:(n:Int).tmod 3=((n % 3:Nat):Int):=by rw [Int.tmod_eq_emod_of_nonneg o_];omega
 have e0:a.eval (.const (i_ 3))=i_ 3:=rfl;generalize hr:a.eval=r at hx e0;exact bq_ (v:=i_ ((n:Int).tmod 3)) yt_ ⟨n % 3,Nat.mod_lt _ d_,by rw [hw]⟩ hI
end
def ExprOK (k:Nat):Prop:=∀ (d b lp:Nat) (X:NP) (w:World),Mk d b lp w->(∀ q,Zm d b q->X q)->(∀ q,X q->q<w)->Calls prog 114 #[.pointer (some (a_ b)),i_ k] w fun e w'=>RE X (k+1) e w'/\Md d b lp w w'
theorem ch_ {Q:Exit->Act->World->Prop} {X:XE} {Inv:World->Prop} {o:Oper} {a:Act} {w:World} {d b lp k:Nat} {x y:Operand} (hC:IC d b lp X Inv) (hE:ExprOK k) (ho:o.op=.call { callee:=.value (.func 114),args:=#[x,y],argTypes:=#[203,3] }) (hx:a.eval x=.pointer (some (a_ b))) (hy:a.eval y=i_ k) (hI:Inv w):RnK prog Q X Inv (kEx X (k+1)) o a w:=by
 have hf:a.eval (.func 114)=.func (.func 114) #[] #[]:=rfl;generalize hr:a.eval=r at hx hy hf;refine cm_ (f:=114) (args:=#[.pointer (some (a_ b)),i_ k]) z9_ ((hE d b lp X w (hC.ok w hI) hC.zx (hC.lt w hI)).mono ?_);exact uh_
end Go.Proofs.YtfolidlmgfhkiaaGreat
