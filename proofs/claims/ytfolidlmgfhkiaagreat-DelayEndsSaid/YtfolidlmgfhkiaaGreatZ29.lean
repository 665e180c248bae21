/- Lemmas: each says what a function of the program leaves, under the conditions that it states. -/
import Derived.Test.YtfolidlmgfhkiaaGreatZ28
import Derived.Test.YtfolidlmgfhkiaaGreatZ16
set_option linter.unusedVariables false
set_option linter.unusedSimpArgs false
set_option maxRecDepth 100000
set_option maxHeartbeats 4000000
namespace Go.Proofs.YtfolidlmgfhkiaaGreat
open Go.RowKit Go.Proofs.Tryz
theorem refwrite_fin {n i j c4 g f r b0:Nat} {l:List Ob} {A:OA} {w w4 T:World} {y:Ob} {v:Val} {u:Value} (hs:Hp w w A n l) (hw4:Below w w w4) (hrow:w4.ownsRow b0 90 2 (.slice (some (a_ g)) n c4) n (l.flatMap Ob.cells)) (hT:Below w4 w4 T)
  (hy:Sl T T 2 Val.cells (some (a_ f)) y.n y.s) (hyA:y.A=some (a_ f)) (hyn:y.n<=8796093021952) (hf:w4<=f) (hj:j<y.n) (hi:i<n) (hb0:w<=b0) (hr:w<=r) (hrb:r<b0) :
  Hp (((((T.setCell ⟨f,j*2,none⟩ (.bool v.ref)).setCell ⟨f,j*2+1,none⟩ (i_ v.n)).setCell ⟨g,i*2,none⟩ (i_ y.id)).setCell ⟨g,i*2+1,none⟩ (.slice (some (a_ f)) y.n y.c)).setCell (a_ r) u)
   (((((T.setCell ⟨f,j*2,none⟩ (.bool v.ref)).setCell ⟨f,j*2+1,none⟩ (i_ v.n)).setCell ⟨g,i*2,none⟩ (i_ y.id)).setCell ⟨g,i*2+1,none⟩ (.slice (some (a_ f)) y.n y.c)).setCell (a_ r) u).heap.size (some (a_ g)) n (l.set i ⟨y.id,y.A,y.n,y.c,y.s.set j v⟩):=by
 have hz:(((((T.setCell ⟨f,j*2,none⟩ (.bool v.ref)).setCell ⟨f,j*2+1,none⟩ (i_ v.n)).setCell ⟨g,i*2,none⟩ (i_ y.id)).setCell ⟨g,i*2+1,none⟩ (.slice (some (a_ f)) y.n y.c)).setCell (a_ r) u).heap.size=T:=by simp
 have Ad:=hT.size;have Ac:=hw4.size;have Aa:b0<=g/\g<w4:=hrow.lt g (by simp [Value.ownBlock]);have A5:=grown2 T f (j*2) (j*2+1) (.bool v.ref) (i_ v.n);obtain ⟨T1,A3⟩:=ex_ ((T.setCell ⟨f,j*2,none⟩ (.bool v.ref)).setCell ⟨f,j*2+1,none⟩ (i_ v.n));rw [←A3] at A5;have A9:(T1:Nat)=T:=by rw [A3];simp
 have A6:=grown2 T1 g (i*2) (i*2+1) (i_ y.id) (.slice (some (a_ f)) y.n y.c);obtain ⟨T2,A4⟩:=ex_ ((T1.setCell ⟨g,i*2,none⟩ (i_ y.id)).setCell ⟨g,i*2+1,none⟩ (.slice (some (a_ f)) y.n y.c));rw [←A4] at A6;have Ab:(T2:Nat)=T:=by rw [A4];simp [A9]
 have A7:=dl_ T2 (a_ r) u;have hl:=hs.sl.len;have A2:T1.ownsRow b0 90 2 (.slice (some (a_ g)) n c4) n (l.flatMap Ob.cells):=(own_below hrow hT).kept A5 (.inr (by intro e;simp [Value.ownBlock] at e;omega));have A1:T2.ownsRow b0 90 2 (.slice (some (a_ g)) n c4) n ((l.set i ⟨y.id,y.A,y.n,y.c,y.s.set j v⟩).flatMap Ob.cells):=by
  rw [A4];exact own_put2 Ob.size A2 hl hi ⟨y.id,y.A,y.n,y.c,y.s.set j v⟩ _ _ (by show [_,_]=_;rw [hyA])
 rw [hz];rw [←A3,←A4];refine ⟨((Sl.ee_ Ob.size (by rw [List.length_set];exact hl) A1).apart (l_) A7 (fun _ ad A0 e=>by injection A0 with A0;subst A0;injection e with e;simp only at e;omega)).mono o_,fun o ho=>?_⟩;rcases List.mem_or_eq_of_mem_set ho with hm | rfl
 ·obtain ⟨o1,o2⟩:=hs.obs o hm;refine ⟨?_,o2⟩;have hb:∀ ad,0<o.n->o.A=some ad->ad.block<w:=fun ad h0 A0=>by
   obtain ⟨ab,ao,e,A8,_⟩:=o1.at_ h0;rw [A0] at e;injection e with e;subst e;exact A8
  have h1:=(o1.up hw4).up hT;refine ((h1.apart (l_) A5 (fun h0 ad A0 e=>?_)).apart o_ A6 (fun h0 ad A0 e=>?_)).apart o_ A7 (fun h0 ad A0 e=>?_)
  ·have:=hb ad h0 A0;injection e with e;omega
  ·have:=hb ad h0 A0;injection e with e;omega
  have:=hb ad h0 A0;injection e with e;simp only at e;omega
 refine ⟨?_,hyn⟩;have h2:=hy.put2 Val.size hj v (u:=.bool v.ref) (v:=i_ v.n) rfl ⟨f,j*2,none⟩ ⟨f,j*2+1,none⟩ (by rw [Nat.zero_add]) (by rw [Nat.zero_add]);rw [←A3] at h2;show Sl _ _ 2 Val.cells y.A y.n (y.s.set j v)
 rw [hyA];exact (h2.apart o_ A6 (fun _ ad A0 e=>by injection A0 with A0;subst A0;injection e with e;simp only at e;omega)).apart o_ A7 (fun _ ad A0 e=>by injection A0 with A0;subst A0;injection e with e;simp only at e;omega)
theorem Write_t (X:NP) (K:Nat) (A:OA) (n c:Nat) (id f:Int) (v:Val) (w:World) (ht:SlT w X K objT A n c) (hK:K<=4398046510976) (hX:∀ k,X k->k<w) :
  Calls prog 129 #[.agg #[.slice A n c],i_ id,i_ f,.agg #[.bool v.ref,i_ v.n]] w fun e w'=>RHB X K e w'/\Below w w w':=by
 obtain ⟨l,hs,Ap⟩:=ht.hp o_;have hn:n<=4398046510976:=Nat.le_trans ht.le hK;have HT:=q_ ht;have Ah:=q_ Ap;have AG:=q_ hX;clear ht Ap hX;obtain ⟨i0,AT,AV,AW,AX⟩:=info_parts CloneObj.infoE;have HL:=q_ hs.sl.len;have HS:=q_ hs;obtain ⟨w2,A5⟩:=ex_ (((w.alloc (.cells #[.slice A n c] 35)).alloc (.cells #[.bool v.ref,i_ v.n] 38)).alloc (.cells #[.slice none 0 0] 35));have A7:Below w w w2:=by rw [A5];exact (bel (b_))
 have Ba:(w2:Nat)=w+3:=by rw [A5];simp
 have HA:=h_ (w2.cell? (a_ w)=some (.slice A n c)) (by rw [A5,ak_ _ _ _ _ y_,ak_ _ _ _ _ t_,aj_ _ _ _ _ _ rfl];rfl);have AM:=h_ (w2.cell? (a_ (w+1))=some (.bool v.ref)) (by rw [A5,ak_ _ _ _ _ t_,aj_ _ _ _ _ _ t_];rfl);have AN:=h_ (w2.cell? (f_ (w+1) 1)=some (i_ v.n)) (by rw [A5,ak_ _ _ _ _ t_,aj_ _ _ _ _ _ t_];rfl);have HD:=h_ (w2.cell? (a_ (w+2))=some (.slice none 0 0)) (by rw [A5,aj_ _ _ _ _ _ t_];rfl);have HF:=h_ (w2.frozen? (a_ (w+2))=false) (by rw [A5,bx_ _ _ _ _ _ t_]);have As:=q_ (hs.up A7);clear hs;go_enter func129,ntmps129;go_wp2_with fail;rw [←A5];have HW:=q_ A5;clear A5;refine (refread_any A n c l id f w2 As.o o_).mono ?_;rintro e w3 ⟨rfl,Ag⟩;have AZ:=Ag.size;have e0:w3.cell? (a_ w)=some (.slice A n c):=(belc Ag o_).trans HA.o;have e3:w3.cell? (a_ (w+2))=some (.slice none 0 0):=(belc Ag o_).trans HD.o;have f3:w3.frozen? (a_ (w+2))=false:=(belf Ag o_).trans HF.o;have q0:(w:Nat)<w3:=by omega
 have q1:(w:Nat)+1<w3:=by omega
 have q2:(w:Nat)+2<w3:=by omega
 have Az:Below w w w3:=A7.trans (Ag.mono A7.size);cases hrb:readB id f (l.map Ob.po) with
 | false =>
  have HR:=q_ (wrote_no (v:=v) hrb);have AQ:=q_ hrb;clear hrb;go_wp2;refine bodyPost_ret (v:=.tuple #[.agg #[.slice none 0 0],.bool false]) (by simp [results,results129,go_sem,e3,World.cell?_alloc_lt,q2]) rfl ?_;exact ⟨⟨none,0,0,false,rfl,q_ ⟨Nat.zero_le _,l_,o_,fun _=>⟨rfl,rfl⟩,fun _ h=>by cases h⟩⟩,(bel Az)⟩
 | true =>
  obtain ⟨i,j,x0,hi,AE,rfl,hj⟩:=readB_true hrb;obtain ⟨x,hx,rfl⟩:=po_at' AE;have HR:=q_ ((wrote_at (v:=v) hrb hi).trans (writeO_set AE));have AQ:=q_ hrb;have HI:=h_ (idxI id (l.map Ob.po)=i) (by rw [idxI,hi]);have hin:i<n:=by rw [←HL.o];exact (e_ hx).1
  have HX:=q_ hx;have HJ:=q_ hj;clear hrb hi AE hx hj;obtain ⟨W0,AH⟩:=ex_ (w3.alloc (.cells #[.bool (readD id (j:Int) (l.map Ob.po)).ref,i_ (readD id (j:Int) (l.map Ob.po)).n] 38));have Aj:Below w3 w3 W0:=by rw [AH];exact (bel (b_))
  have B1:=Aj.size;have A8:Below w2 w2 W0:=Ag.trans (Aj.mono AZ);have AF:=q_ ((As.o.up A8).sl.src Ob.size);have c0:W0.cell? (a_ w)=some (.slice A n c):=(belc A8 o_).trans HA.o;have s0:(w:Nat)<W0:=by omega
  go_wp2_with (at_builtin;rw [←AH];refine cj_ rfl _ _ 33 rfl W0 90 i0 _ 2 32 underlying33 AT AV AW AX rfl d_ (.slice none 0 0) 0 [] (by simp [Act.eval]) (World.ownsRow_nil _ _ _ _) A n c (l.flatMap Ob.cells) (by simp [Act.eval]) AF.o.1 (by rw [flat_len Ob.size,HL.o]) AF.o.2 (ob_one l) m_ o_ (l_) ?_;intro A4 c4 w4 Aa An Au;have H4:=q_ Aa;have Aw:Below W0 W0 w4:=(b_).grown An (l_) (fun k hk=>by cases hk);have Bb:=Aw.size;have d0:=(belc Aw (b:=w) (o:=0) o_).trans c0;have s1:(w:Nat)<w4:=o_;clear Aa An Au);obtain ⟨W1,Af⟩:=ex_ (w4.alloc (.cells #[.slice A4 n c4] 35));have Ak:Below w4 w4 W1:=by rw [Af];exact (bel (b_))
  have B2:(W1:Nat)=w4+1:=by rw [Af];simp
  have A0:=own_eq (Nat.zero_add n) H4.o;rw [List.nil_append] at A0;obtain ⟨g,Au,B7,Ar,AB⟩:=dr_ A0 o_;subst Au;have AD:=Sl.ee_ Ob.size HL.o A0;have Ai:=q_ A0;have g0:w4.cell? ⟨g,i*2,none⟩=some (i_ x.id):=by have:=sl_at AD HX.o (j:=0) rfl;rwa [Nat.zero_add] at this
  have g1:w4.cell? ⟨g,i*2+1,none⟩=some (.slice x.A x.n x.c):=by have:=sl_at AD HX.o (j:=1) rfl;rwa [Nat.zero_add] at this
  have z0:=AB (i*2);have z1:=AB (i*2+1);have k4:W1.cell? (a_ w4)=some (.slice (some (a_ g)) n c4):=by rw [Af,aj_ _ _ _ _ _ rfl];rfl
  have Ac:Below w2 w2 w4:=A8.trans (Aw.mono A8.size);have Ad:Below w2 w2 W1:=Ac.trans (Ak.mono Ac.size);rw [←Af];have B3:=q_ Af;clear Af A0 AD AB c0 d0 e0;refine (refat_any A n c l id W1 (As.o.up Ad).sl o_).mono ?_;rintro e w5 ⟨rfl,Ax⟩;rw [HI.o];have B0:=Ax.size;have A9:Below w2 w2 w5:=Ad.trans (Ax.mono Ad.size);have Ae:Below w w w5:=A7.trans (A9.mono A7.size);have a0:w5.cell? (a_ w)=some (.slice A n c):=(belc A9 o_).trans HA.o;have AL:=HS.o.sl;obtain ⟨ab,ao,AS,AK,Av⟩:=AL.at_ o_;subst AS;have b0:w5.cell? ⟨ab,ao+i*2,none⟩=some (i_ x.id):=(belc Ae AK).trans (Av i x HX.o 0 _ rfl);have b1:w5.cell? ⟨ab,ao+i*2+1,none⟩=some (.slice x.A x.n x.c):=(belc Ae AK).trans (Av i x HX.o 1 _ rfl);obtain ⟨o1,o2⟩:=HS.o.obs x (List.mem_of_getElem? HX.o);have AU:(i:Int)<(n:Int):=by omega
  clear Av AL;go_wp2_with fail;refine (object_any x w5 (o1.up Ae) o2).mono ?_;rintro e w6 ⟨A6,n6,c6,rfl,A3,AC,Ay⟩;have Bc:=Ay.size;have B9:x.s.length=x.n:=o1.len;have AJ:j<x.s.length:=HJ.o;have Ao:n6=x.s.length:=AC;obtain ⟨f,AR,B5,B6,AA⟩:=dr_ A3.o o_;subst AR;have Aq:=Sl.ee_ Val.size AC.symm A3.o;obtain ⟨t,ht⟩:∃ t,x.s[j]?=some t:=⟨_,ge_ AJ⟩;have t0:w6.cell? ⟨f,j*2,none⟩=some (.bool t.ref):=by have:=sl_at Aq (i:=j) (x:=t) ht (j:=0) rfl;rwa [Nat.zero_add] at this
  have t1:w6.cell? ⟨f,j*2+1,none⟩=some (i_ t.n):=by have:=sl_at Aq (i:=j) (x:=t) ht (j:=1) rfl;rwa [Nat.zero_add] at this
  have y0:=AA (j*2);have y1:=AA (j*2+1);have A2:Below w2 w2 w6:=A9.trans (Ay.mono A9.size);have Al:Below W1 W1 w6:=Ax.trans (Ay.mono B0);have A1:Below w4 w4 w6:=Ak.trans (Al.mono o_);have m1:w6.cell? (a_ (w+1))=some (.bool v.ref):=(belc A2 o_).trans AM.o;have m2:w6.cell? (f_ (w+1) 1)=some (i_ v.n):=(belc A2 o_).trans AN.o;have m3:w6.cell? (a_ (w+2))=some (.slice none 0 0):=(belc A2 o_).trans HD.o;have m4:w6.frozen? (a_ (w+2))=false:=(belf A2 o_).trans HF.o;have m5:w6.cell? (a_ w4)=some (.slice (some (a_ g)) n c4):=(belc Al o_).trans k4;have m6:w6.cell? ⟨g,i*2,none⟩=some (i_ x.id):=(belc A1 Ar).trans g0;have m7:w6.cell? ⟨g,i*2+1,none⟩=some (.slice x.A x.n x.c):=(belc A1 Ar).trans g1;have m8:w6.frozen? ⟨g,i*2,none⟩=false:=(belf A1 Ar).trans z0;have m9:w6.frozen? ⟨g,i*2+1,none⟩=false:=(belf A1 Ar).trans z1;have l1:(w:Nat)+1<w6:=by omega
  have l2:(w:Nat)+2<w6:=by omega
  have l3:(w4:Nat)<w6:=by omega
  have l4:g<w6:=by omega
  have d1:w+1≠f:=by omega
  have d2:w+2≠f:=by omega
  have d3:w4≠f:=by omega
  have d4:g≠f:=by omega
  have d5:w4≠g:=by omega
  have d6:w6≠f:=by omega
  have d7:w6≠g:=by omega
  have d8:w+2≠g:=by omega
  have B8:(j:Int)<(n6:Int):=by omega
  have AP:=q_ Ao;have AO:=q_ Aq;clear k4 g0 g1 z0 z1 a0 b0 b1 AC Ao Aq AA ht AJ;go_wp2;refine bodyPost_ret (v:=.tuple #[.agg #[.slice (some (a_ g)) n c4],.bool true]) (by simp [results,results129,go_sem,m3,World.cell?_alloc_lt,l2]) rfl ?_;have AY:Below w w w4:=A7.trans (Ac.mono A7.size);have B4:=AP.o;have Am:=(refwrite_fin (T:=w6) (y:=⟨x.id,some (a_ f),n6,c6,x.s⟩) (j:=j) (i:=i) (v:=v) (r:=w+2) (u:=.slice (some (a_ g)) n c4) HS.o AY Ai.o A1 AO.o rfl (by show n6<=8796093021952;omega) o_ (by show j<n6;omega) hin o_ o_ o_).up ((b_).alloc (l_) (.cells #[i_ x.id,.slice (some (a_ f)) n6 c6] 90));have AI:Below w w ((((((w6.setCell ⟨f,j*2,none⟩ (.bool v.ref)).setCell ⟨f,j*2+1,none⟩ (i_ v.n)).setCell ⟨g,i*2,none⟩ (i_ x.id)).setCell ⟨g,i*2+1,none⟩ (.slice (some (a_ f)) n6 c6)).setCell (a_ (w+2)) (.slice (some (a_ g)) n c4)).alloc (.cells #[i_ x.id,.slice (some (a_ f)) n6 c6] 90)):=by
   have hb:Below w w w6:=A7.trans (A2.mono A7.size);exact (((((hb.setCell (by show _<=f;omega) _).setCell (by show _<=f;omega) _).setCell (by show _<=g;omega) _).setCell (by show _<=g;omega) _).setCell y_ _).alloc (by simp;omega) _
  refine ⟨⟨_,n,c4,true,rfl,q_ (SlT.of_sl (e:=objT) Am.sl ?_ ?_ HT.o.le ?_)⟩,AI⟩
  ·refine (form_own Ai.o).mono ?_;have:=A1.size
   (simp <;> omega)
  ·intro ad Ab hx;injection Ab with Ab;subst Ab;have:=AG.o g hx;omega
  intro o ho;refine vts_ob ?_;rcases List.mem_or_eq_of_mem_set ho with hm | rfl
  ·exact (Ah.o o hm).up (Kp.of_below AI) (l_)
  refine SlT.of_vals (Am.obs _ ho).1 ?_ ?_ ?_
  ·refine (form_own A3.o).mono ?_
   (simp <;> omega)
  ·intro ad Ab hx;injection Ab with Ab;subst Ab;have:=AG.o f hx;omega
  have h1:=(Ah.o x (List.mem_of_getElem? HX.o)).le;show n6<=K
  omega
structure Cl where
 id:Int
 field:Int
 ref:Bool
 n:Int
structure Dl where
 id:Int
 field:Int
 op:Int
 ref:Bool
 n:Int
def RIdx (n:Nat) (e:Ending):Prop:=∃ q:Int,e=.returned (i_ q)/\Hid (q=-1∨∃ k:Nat,k<n/\q=(k:Int))
section
variable {X:NP} {w:World} {K n c k:Nat} {A:OA}
theorem SlT.at0 {e:List CT} (h:SlT w X K e A n c) (hk:k<n):∃ g o,A=some (f_ g o)/\g<w/\∃ vs,VTs w X K e vs/\∀ w',Below w w w'->∀ j u,vs[j]?=some u->w'.cell? ⟨g,o+k*e.length+j,none⟩=some u:=by
 obtain ⟨g,o,hA,hg,hX,vs,hv,hm⟩:=h.mt hk;exact ⟨g,o,hA,hg,vs,hv,fun w' hb j u hu=>(belc hb hg).trans (hm j u hu)⟩
theorem SlT.num_at (h:SlT w X K [.num] A n c) (hk:k<n):∃ g o,A=some (f_ g o)/\g<w/\∃ x:Int,∀ w',Below w w w'->w'.cell? ⟨g,o+k,none⟩=some (i_ x):=by
 obtain ⟨g,o,hA,hg,vs,hv,hm⟩:=h.at0 hk;obtain ⟨a,r1,rfl,ha,h1⟩:=hv.head;obtain ⟨a,rfl⟩:=ha.int;exact ⟨g,o,hA,hg,a,fun w' hb=>by have:=hm w' hb 0 _ rfl;simpa using this⟩
theorem SlT.dp_ (h:SlT w X K as_ A n c) (hk:k<n):∃ g o,A=some (f_ g o)/\g<w/\∃ x:Cl,∀ w',Below w w w' →
  (w'.cell? ⟨g,o+k*4,none⟩=some (i_ x.id)/\w'.cell? ⟨g,o+k*4+1,none⟩=some (i_ x.field)/\w'.cell? ⟨g,o+k*4+2,none⟩=some (.bool x.ref)/\w'.cell? ⟨g,o+k*4+3,none⟩=some (i_ x.n)):=by
 obtain ⟨g,o,hA,hg,vs,hv,hm⟩:=h.at0 hk;obtain ⟨a,r1,rfl,ha,h1⟩:=hv.head;obtain ⟨b,r2,rfl,hb,h2⟩:=h1.head;obtain ⟨c,r3,rfl,hc,h3⟩:=h2.head;obtain ⟨d,r4,rfl,hd,h4⟩:=h3.head;obtain ⟨a,rfl⟩:=ha.int;obtain ⟨b,rfl⟩:=hb.int;obtain ⟨c,rfl⟩:=hc.bool;obtain ⟨d,rfl⟩:=hd.int;exact ⟨g,o,hA,hg,⟨a,b,c,d⟩,fun w' hw=>⟨hm w' hw 0 _ rfl,hm w' hw 1 _ rfl,hm w' hw 2 _ rfl,hm w' hw 3 _ rfl⟩⟩
theorem SlT.delta_at (h:SlT w X K bl_ A n c) (hk:k<n):∃ g o,A=some (f_ g o)/\g<w/\∃ x:Dl,∀ w',Below w w w' →
  (w'.cell? ⟨g,o+k*5,none⟩=some (i_ x.id)/\w'.cell? ⟨g,o+k*5+1,none⟩=some (i_ x.field)/\w'.cell? ⟨g,o+k*5+2,none⟩=some (i_ x.op)/\w'.cell? ⟨g,o+k*5+3,none⟩=some (.bool x.ref)/\w'.cell? ⟨g,o+k*5+4,none⟩=some (i_ x.n)):=by
 obtain ⟨g,o,hA,hg,vs,hv,hm⟩:=h.at0 hk;obtain ⟨a,r1,rfl,ha,h1⟩:=hv.head;obtain ⟨b,r2,rfl,hb,h2⟩:=h1.head;obtain ⟨c,r3,rfl,hc,h3⟩:=h2.head;obtain ⟨d,r4,rfl,hd,h4⟩:=h3.head;obtain ⟨f,r5,rfl,hf,h5⟩:=h4.head;obtain ⟨a,rfl⟩:=ha.int;obtain ⟨b,rfl⟩:=hb.int;obtain ⟨c,rfl⟩:=hc.int;obtain ⟨d,rfl⟩:=hd.bool;obtain ⟨f,rfl⟩:=hf.int;exact ⟨g,o,hA,hg,⟨a,b,c,d,f⟩,fun w' hw=>⟨hm w' hw 0 _ rfl,hm w' hw 1 _ rfl,hm w' hw 2 _ rfl,hm w' hw 3 _ rfl,hm w' hw 4 _ rfl⟩⟩
theorem SlT.obj_at (h:SlT w X K objT A n c) (hk:k<n):∃ g o,A=some (f_ g o)/\g<w/\∃ x:Ob,SlT w X K valT x.A x.n x.c/\Sl w w 2 Val.cells x.A x.n x.s/\∀ w',Below w w w' →
  (w'.cell? ⟨g,o+k*2,none⟩=some (i_ x.id)/\w'.cell? ⟨g,o+k*2+1,none⟩=some (.slice x.A x.n x.c)):=by
 obtain ⟨g,o,hA,hg,vs,hv,hm⟩:=h.at0 hk;obtain ⟨x,rfl,h1,h2⟩:=hv.obj;exact ⟨g,o,hA,hg,x,h1,h2,fun w' hw=>⟨hm w' hw 0 _ rfl,hm w' hw 1 _ rfl⟩⟩
end
theorem at_t (X:NP) (K:Nat) (A:OA) (n c:Nat) (id f:Int) (w:World) (h:SlT w X K as_ A n c) (hK:K<=4398046510976) :
  Calls prog 131 #[.slice A n c,i_ id,i_ f] w fun e w'=>RIdx n e/\Below w w w':=by
 have H:=q_ h;have hn:n<=4398046510976:=Nat.le_trans h.le hK;clear h;go_enter func131,ntmps131;go_upto_region 2 with fail;go_loopw [11] (fun i wr=>∃ k:Nat,k<=n/\i=i_ k/\Below w w wr) (fun i _=>n - (intOf i).toNat)
 case atStart=>exact ⟨0,o_,rfl,b_⟩
 obtain ⟨k,hk,rfl,hb⟩:=hrel;have A1:=hb.size;by_cases hlt:k<n
 ·have A0:(k:Int)<(n:Int):=by omega
  obtain ⟨g,o,rfl,hg,x,hx⟩:=H.o.dp_ hlt;obtain ⟨c0,c1,c2,c3⟩:=hx wr hb;have HB:=q_ hb;have HR:=h_ (RIdx n (.returned (i_ (k:Int)))) (⟨_,rfl,q_ (.inr ⟨k,hlt,rfl⟩)⟩);clear hx hb;go_wp2;all_goals first
   | (go_ret;exact ⟨HR.o,(bel HB.o)⟩)
   | (go_roundw
      case rel=>exact ⟨k+1,o_,by go_num,(bel HB.o)⟩
      case measure=>simp [intOf];omega)
 have A0:¬(k:Int)<(n:Int):=by omega
 go_wp2;go_ret;exact ⟨⟨_,rfl,q_ (.inl rfl)⟩,hb⟩
theorem infoCl:(prog.info? 87).map (fun i=>(i.zero,i.size,i.bytes))=some (some (.agg #[i_ 0,i_ 0,.bool false,i_ 0]),4,32):=by kernel_rfl
theorem infoAc:(prog.info? 152).map (fun i=>(i.zero,i.size,i.bytes))=some (some (.agg #[.bool false,i_ 0,i_ 0]),3,24):=by kernel_rfl
def RSl (X:NP) (K:Nat) (e:List CT) (en:Ending) (w:World):Prop:=∃ (A:OA) (n c:Nat),en=.returned (.slice A n c)/\Hid (SlT w X K e A n c)
theorem actions_t (X:NP) (K L:Nat) (A:OA) (n c:Nat) (B:OA) (m d:Nat) (w:World) (ha:SlT w X K actT A n c) (hb:SlT w X L actT B m d) (hK:K<=100000000000) (hL:L<=100000000000) (hX:∀ k,X k->k<w) :
  Calls prog 75 #[.slice A n c,.slice B m d] w fun e w'=>RSl X (K+L) actT e w'/\Below w w w':=by
 obtain ⟨i0,A1,A2,A3,A6⟩:=info_parts infoAc;have HA:=h_ (SlT w (Wi X (Value.slice none 0 0).ownBlock) (K+L) actT A n c) (ha.kept (Kp.refl _ _) (fun k _ h h2=>by rcases h2 with h2 | h2;exact h h2;cases h2) o_);have HB:=q_ hb;have A0:=q_ hX;have h1:=ha.le;have h2:=hb.le;clear ha hb hX;go_enter func75,ntmps75;go_wp2_with (at_builtin;first
  | (refine aq_ rfl _ _ 36 rfl w 152 i0 _ 24 actT X (K+L) underlying36 A1 A2 A3 A6 rfl d_ none 0 0 (by simp [Act.eval]) (OwT.nil _ _ _ _ _ _) A n c (by simp [Act.eval]) HA.o A0.o m_ o_ (l_) ?_;intro A4 c4 w4 o4 g4 l4;rw [Nat.zero_add] at o4 l4 ⊢;have b4:Below w w w4:=am_ g4 (l_) (fun k hk=>by cases hk);have z4:=b4.size;have O4:=q_ o4;have L4:=q_ l4;clear o4 l4 g4)
  | (refine aq_ rfl _ _ 36 rfl w 152 i0 _ 24 actT X (K+L) underlying36 A1 A2 A3 A6 rfl d_ A4 n c4 (by simp [Act.eval]) O4.o B m d (by simp [Act.eval]) (HB.o.kept (Kp.of_below b4) (fun k hk h h2=>by rcases h2 with h2 | h2;exact h h2;rcases L4.o k h2 with h3 | h3;cases h3;omega) o_) (fun k hk=>by have:=A0.o k hk;omega) m_ o_ z4 ?_;intro A5 c5 w5 o5 g5 l5;have b5:Below w w w5:=b4.grown g5 z4 (fun k hk=>by rcases L4.o k hk with h3 | h3;cases h3;omega);have O5:=q_ o5;clear o5 l5 g5))
 go_ret;exact ⟨⟨_,_,_,rfl,q_ (O5.o.slT A0.o o_)⟩,b5⟩
theorem Answer_t (X:NP) (K:Nat) (A:OA) (n c:Nat) (k:Int) (w:World) (h:SlT w X K [.num] A n c) (hK:K<=4398046510976) :
  Calls prog 76 #[.agg #[.slice A n c],i_ k] w fun e w'=>RN e/\Below w w w':=by
 have hn:n<=4398046510976:=Nat.le_trans h.le hK;have H:=q_ h;clear h;by_cases h0:0<=k
 ·obtain ⟨q,rfl⟩:∃ q:Nat,k=q:=⟨k.toNat,o_⟩;by_cases h1:q<n
  ·have A0:(q:Int)<(n:Int):=by omega
   obtain ⟨g,o,rfl,hg,x,hx⟩:=H.o.num_at h1;have c0:=hx w (b_);clear hx;go_enter func76,ntmps76;go_wp2;go_ret;exact ⟨⟨_,rfl⟩,(bel (b_))⟩
  have A0:¬(q:Int)<(n:Int):=by omega
  go_enter func76,ntmps76;go_wp2;go_ret;exact ⟨⟨_,rfl⟩,(bel (b_))⟩
 go_enter func76,ntmps76;go_wp2;go_ret;exact ⟨⟨_,rfl⟩,(bel (b_))⟩
theorem ey_ (X:NP) (K:Nat) (A:OA) (n c:Nat) (y:Dl) (w:World) (ha:SlT w X K as_ A n c) (hK:1<=K/\K<=100000000000) (hX:∀ k,X k->k<w) :
  Calls prog 138 #[.slice A n c,.agg #[i_ y.id,i_ y.field,i_ y.op,.bool y.ref,i_ y.n]] w fun e w'=>RSl X K as_ e w'/\Below w w w':=by
 obtain ⟨i0,Ac,Ad,Ae,Af⟩:=info_parts infoCl;obtain ⟨W,hW,A4,Ab,B0⟩:=af_ w [i_ y.id,i_ y.field,i_ y.op,.bool y.ref,i_ y.n] 174;have KB:=q_ (fun w' (hb:Below W W w')=>B0.below hb);have HA:=q_ (ha.up (Kp.of_below A4) (Nat.le_refl K));have HW:=q_ A4;have Ah:=ha.le;have Ag:(w:Nat)<W:=by omega
 have A3:=h_ (∀ k,X k->k<W) (fun k hk=>by have:=hX k hk;omega);clear ha hX B0 A4 Ab;go_enter func138,ntmps138;go_upto_region 1 with fail;rw [←hW];clear hW;go_upto_region 3 with fail;go_loopw [10,5] (fun i s wr=>∃ (k q:Nat) (B:OA) (d:Nat),k<=n/\i=i_ k/\s=.slice B q d/\q<=k/\Hid (OwT wr W 87 as_ X K B q d)/\Below W W wr) (fun i _ _=>n - (intOf i).toNat)
 case atStart=>exact ⟨0,0,none,0,o_,rfl,rfl,o_,q_ (OwT.nil _ _ _ _ _ _),b_⟩
 obtain ⟨k,q,B,d,hk,rfl,rfl,hq,hO,hb⟩:=hrel;have Aj:=hb.size;by_cases hlt:k<n
 ·have A6:(k:Int)<(n:Int):=by omega
  obtain ⟨g,o,rfl,hg,x,hx⟩:=HA.o.dp_ hlt;obtain ⟨c0,c1,c2,c3⟩:=hx wr hb;have d0:=(KB.o wr hb).2.1 0 _ rfl;have d1:=(KB.o wr hb).2.1 1 _ rfl;have A7:(w:Nat)<wr:=by omega
  have HB:=q_ hb;obtain ⟨V,hV,A0,Aa,V0⟩:=af_ wr [i_ x.id,i_ x.field,.bool x.ref,i_ x.n] 87;have v0:=V0.2.1 0 _ rfl;have v1:=V0.2.1 1 _ rfl;have v2:=V0.2.1 2 _ rfl;have v3:=V0.2.1 3 _ rfl;have e0:V.cell? (a_ w)=some (i_ y.id):=(belc A0 A7).trans d0;have e1:V.cell? (f_ w 1)=some (i_ y.field):=(belc A0 A7).trans d1;have A1:=h_ (Below W W V) (hb.trans (A0.mono hb.size));have A8:=h_ (∀ o,Below W W (V.alloc o)) (fun o=>A1.o.alloc A1.o.size o);have A2:=q_ (hO.o.below A0);have A9:=h_ (∀ o,OwT (V.alloc o) W 87 as_ X K B q d) (fun o=>A2.o.below ((b_).alloc (l_) o));have HU:=h_ (∀ a b r m,SlT (V.alloc (.cells #[i_ a,i_ b,.bool r,i_ m] 87)) (Wi X (Value.slice B q d).ownBlock) K as_ (some (a_ V)) 1 1) (fun a b r m=>by
   refine SlT.lit1 (e:=as_) (ed_ a b r m) _ (fun h=>?_) hK.1
   rcases h with h | h
   ·have:=A3.o _ h;omega
   obtain ⟨xs,ho,_⟩:=A2.o
   have:=(an_ ho h).2;omega)
  have Ai:=A1.o.size;clear hx hb hO V0 A0 Aa d0 d1;go_upto_region 5 with fail;rw [←hV];clear hV c0 c1 c2 c3;go_wp2_with (at_builtin;refine aq_ rfl _ _ 54 rfl W 87 i0 _ 32 as_ X K underlying54 Ac Ad Ae Af rfl d_ B q d (by simp [Act.eval]) (A9.o _) _ 1 1 (by simp [Act.eval]) (HU.o _ _ _ _) (fun k hk=>by have:=A3.o k hk;simp;omega) m_ o_ (by simp;omega) ?_;intro A5 c5 w5 o5 g5 l5;have b5:Below W W w5:=(A8.o _).grown g5 (by simp;omega) (fun k hk=>by obtain ⟨xs,ho,_⟩:=A2.o;exact (an_ ho hk).1);have O5:=q_ o5;clear o5 g5 l5);all_goals first
   | (go_roundw
      case rel=>exact ⟨k+1,q+1,A5,c5,o_,by go_num,rfl,o_,O5,b5⟩
      case measure=>simp [intOf];omega)
   | (go_roundw
      case rel=>exact ⟨k+1,q,B,d,o_,by go_num,rfl,o_,A2,A1.o⟩
      case measure=>simp [intOf];omega)
 have A6:¬(k:Int)<(n:Int):=by omega
 go_wp2;go_ret;exact ⟨⟨_,_,_,rfl,q_ (hO.o.slT A3.o o_)⟩,HW.o.trans (hb.mono HW.o.size)⟩
theorem Read_t (X:NP) (K:Nat) (A:OA) (n c:Nat) (id f:Int) (w:World) (h:SlT w X K objT A n c) (hK:K<=8796093021952) :
  Calls prog 17 #[.agg #[.slice A n c],i_ id,i_ f] w fun e w'=>(∃ (v:Val) (b:Bool),e=.returned (.tuple #[.agg #[.bool v.ref,i_ v.n],.bool b]))/\Below w w w':=by
 obtain ⟨l,hs,_⟩:=h.hp hK;refine (refread_any A n c l id f w hs (Nat.le_trans h.le o_)).mono ?_;rintro e w' ⟨rfl,hb⟩;exact ⟨⟨_,_,rfl⟩,hb⟩
theorem Reduced_t (X:NP) (K:Nat) (A:OA) (n c:Nat) (L:Nat) (B:OA) (m d:Nat) (w:World) (h:SlT w X K objT A n c) (hK:K<=4398046510976) (hl:SlT w X L bl_ B m d) (hL:L<=4398046510976) (hX:∀ k,X k->k<w) :
  Calls prog 134 #[.agg #[.slice A n c],.slice B m d] w fun e w'=>RH X K e w'/\Below w w w':=by
 obtain ⟨W,hW,A5,AA,B0,B1⟩:=co_ w [.slice A n c] 35 [.slice none 0 0] 35;have H:=q_ (h.kept (Y:=fun k=>X k∨k=w∨k=w+1) (Kp.of_below A5) (fun k hk h1 h2=>by rcases h2 with h2 | h2 | h2;exact h1 h2;omega;omega) (Nat.le_refl K));have HL:=q_ (hl.kept (Y:=fun k=>X k∨k=w∨k=w+1) (Kp.of_below A5) (fun k hk h1 h2=>by rcases h2 with h2 | h2 | h2;exact h1 h2;omega;omega) (Nat.le_refl L));have HW:=q_ A5;have Aj:=q_ B0;have Ak:=q_ B1;have hm:m<=4398046510976:=Nat.le_trans hl.le hL;have Av:=h_ (∀ k,(X k∨k=w∨k=w+1)->k<W) (fun k hk=>by rcases hk with hk | hk | hk;have:=hX k hk;omega;omega;omega);have AD:=q_ hX;have AE:(w:Nat)<W:=by omega
 have AF:(w:Nat)+1<W:=by omega
 clear h hl hX B0 B1 A5 AA;go_enter func134,ntmps134;go_upto_region 1 with fail;rw [←hW];clear hW;go_upto_region 2 with fail;go_loopw [13] (fun i wr=>∃ (k:Nat) (C:OA) (q d:Nat),k<=m/\i=i_ k/\Hid (SlT wr (fun k=>X k∨k=w∨k=w+1) K objT C q d)/\Hid (Bx wr w [.slice C q d])/\Hid (Bx wr (w+1) [.slice none 0 0])/\Hid (Kp (fun k=>k=w) W wr)) (fun i _=>m - (intOf i).toNat)
 case atStart=>exact ⟨0,A,n,c,o_,rfl,H,Aj,Ak,q_ (Kp.refl _ _)⟩
 obtain ⟨k,C,q,d2,hk,rfl,hC,A6,A7,A8⟩:=hrel;have AH:=A8.o.size;have c0:=A6.o.2.1 0 _ rfl;have f0:=A6.o.2.2;have e0:=A7.o.2.1 0 _ rfl;have g0:=A7.o.2.2;by_cases hlt:k<m
 ·have Ac:(k:Int)<(m:Int):=by omega
  obtain ⟨g,o,rfl,hg,x,hx⟩:=(HL.o.up (A8.o.mono (fun k _ h=>.inr (.inl h))) (Nat.le_refl L)).delta_at hlt;obtain ⟨c4,c5,c6,c7,c9⟩:=hx wr (b_);obtain ⟨V,hV,A0,Az,V0⟩:=af_ wr [i_ x.id,i_ x.field,i_ x.op,.bool x.ref,i_ x.n] 174;have v0:=V0.2.1 0 _ rfl;have v1:=V0.2.1 1 _ rfl;have c8:=(A6.o.below A0).2.1 0 _ rfl;have As:=q_ (A6.o.below A0);have Au:=q_ (A7.o.below A0);have A4:=q_ V0;have Ae:=q_ (hC.o.up (Kp.of_below A0) (Nat.le_refl K));have Ao:=q_ (A8.o.trans (.of_below A0));clear hx A0 Az V0 c0 f0 e0 g0;go_upto_region 4 with fail;rw [←hV];clear hV c4 c5 c6 c7 c9;go_wp2_with fail;refine (Read_t (fun k=>X k∨k=w∨k=w+1) K C q d2 x.id x.field V Ae.o o_).mono ?_;rintro e Y ⟨⟨v,b,rfl⟩,hY⟩;obtain ⟨U,hU,Ai,Ay,U0⟩:=af_ Y [.bool v.ref,i_ v.n] 38;have A1:Below V V U:=hY.trans (Ai.mono hY.size);have Aq:=q_ (As.o.below A1);have Ar:=q_ (Au.o.below A1);have A3:=q_ (A4.o.below A1);have AC:=q_ U0;have Al:=q_ (Ae.o.up (Kp.of_below A1) (Nat.le_refl K));have An:=q_ (Ao.o.trans (.of_below A1));have y0:=(A4.o.below hY).2.1 2 _ rfl;have y1:=(A4.o.below hY).2.1 3 _ rfl;have y2:=(A4.o.below hY).2.1 4 _ rfl;have u0:=A3.o.2.1 2 _ rfl;have u1:=A3.o.2.1 3 _ rfl;have u2:=A3.o.2.1 4 _ rfl;have u3:=U0.2.1 0 _ rfl;have u4:=U0.2.1 1 _ rfl;clear hY A1 Ai Ay U0 c8 v0 v1;go_upto_region 5 with fail;rw [←hU];clear hU y0 y1 y2;go_wp2_with fail;refine (Apply_any x.op v ⟨x.ref,x.n⟩ U).mono ?_;rintro e Z ⟨⟨nn,ff,rfl⟩,hZ⟩;obtain ⟨T,hT,Ah,Ax,T0⟩:=af_ Z [.bool false,i_ nn] 38;have A2:Below U U T:=hZ.trans (Ah.mono hZ.size);have Ab:=q_ (Aq.o.below A2);have Ag:=q_ (Ar.o.below A2);have Af:=q_ (A3.o.below A2);have AB:=q_ T0;have Ad:=q_ (Al.o.up (Kp.of_below A2) (Nat.le_refl K));have A9:=q_ (An.o.trans (.of_below A2));have t0:=Ab.o.2.1 0 _ rfl;have t1:=Af.o.2.1 0 _ rfl;have t2:=Af.o.2.1 1 _ rfl;have t3:=T0.2.1 0 _ rfl;have t4:=T0.2.1 1 _ rfl;have AG:=A9.o.size;clear hZ A2 Ah Ax T0 u0 u1 u2 u3 u4;go_upto_region 6 with fail;rw [←hT];clear hT;go_wp2_with (go_at_call 129;refine (Write_t (fun k=>X k∨k=w∨k=w+1) K C q d2 x.id x.field ⟨false,nn⟩ T Ad.o hK (fun k hk=>by have:=Av.o k hk;omega)).mono ?_;rintro e S ⟨⟨C2,q2,d3,b2,rfl,Aw⟩,hS⟩;have Aa:=q_ (Ab.o.below hS);have Ap:=q_ (Ag.o.below hS);have Am:=q_ (A9.o.trans (.of_below hS));have s0:=Aa.o.2.1 0 _ rfl;have s1:=Aa.o.2.2;clear hS);all_goals first
   | (go_roundw
      case rel=>exact ⟨k+1,C2,q2,d3,o_,by go_num,q_ (Aw.o.up ((Kp.refl _ S).setCell (.inl (.inr (.inl rfl))) _) (Nat.le_refl K)),q_ (Aa.o.set 0 _),q_ (Ap.o.far (by show (w:Nat)≠w+1;omega) _),q_ (Am.o.setCell (.inl rfl) _)⟩
      case measure=>simp [intOf];omega)
   | (go_roundw
      case rel=>exact ⟨k+1,C,q,d2,o_,by go_num,Ad,Ab,Ag,A9⟩
      case measure=>simp [intOf];omega)
 have Ac:¬(k:Int)<(m:Int):=by omega
 go_wp2;refine retC results134 (by rfl) underlying35 rfl k_ (cs:=[_]) (A7.o.set 0 _).whole rfl ?_;have hb:Below w w (wr.setCell (a_ (w+1)) (.slice C q d2)):=(HW.o.trans (A8.o.below (B:=w) o_ (fun k hk h=>o_))).setCell (by show (w:Nat)<=w+1;omega) _;exact ⟨⟨_,_,_,rfl,q_ ((hC.o.up ((Kp.refl _ wr).setCell (.inl (.inr (.inr rfl))) _) (Nat.le_refl K)).kept (Kp.refl _ _) (fun k _ h h2=>h (.inl h2)) (Nat.le_refl K))⟩,hb⟩
end Go.Proofs.YtfolidlmgfhkiaaGreat
