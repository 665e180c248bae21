/- Lemmas on functions of the program, under the conditions that each states. -/
import Derived.Test.YtfolidlmgfhkiaaGreatY03
import Derived.RangeFuncNested
import Derived.RangeFuncBound
import Derived.RangeFuncLeaves
import Derived.Deep.WholeRow
import Derived.OwnWalkIn
import Derived.TacticsInMore
import Derived.LoopNIn
import Derived.LoopIn
import Derived.Stop.RegionWithIn
import Derived.Shelf.Abstract
import Derived.RangeFuncBox
set_option linter.unusedVariables false
set_option linter.unusedSimpArgs false
set_option maxRecDepth 100000
set_option maxHeartbeats 4000000
namespace Go.Proofs.YtfolidlmgfhkiaaGreat
open Go.RowKit Go.Proofs.Tryz
def isStr:Value->Bool
 | .string _=>true
 | _=>false
theorem strs_at {cs:Array Value} (h:cs.toList.all isStr=true) (k:Nat) (hk:k<cs.size):∃ s,cs[k]?=some (.string s):=by
 have hm:cs[k] ∈ cs.toList:=by simp
 have:=List.all_eq_true.1 h _ hm;rw [Array.getElem?_eq_getElem hk];cases hv:cs[k] <;> rw [hv] at this <;> first | exact ⟨_,rfl⟩ | cases this
theorem reserved_any (s:ByteArray) (w:World):Calls prog 201 #[.string s] w fun e w'=>RB e/\Below w w w':=by
 go_enter func201,ntmps201;go_upto_region 2 with fail;go_loopw [9] (fun i wr=>∃ k:Nat,k<=19/\i=i_ k/\Hid (Below w w wr)/\(w:Nat)<wr/\Hid (∀ k:Nat,k<19->∃ s,wr.cell? (f_ w k)=some (.string s))) (fun i _=>19 - (intOf i).toNat)
 case atStart=>exact ⟨0,o_,rfl,q_ (bel (b_)),zk_,q_ (fun k hk=>by rw [ar_ _ _ _ _ _ rfl];exact strs_at rfl k hk)⟩
 obtain ⟨k,hk,rfl,HB,hz,HC⟩:=hrel;by_cases hlt:k<19
 ·have A0:(k:Int)<19:=by omega
  obtain ⟨t,ht⟩:=HC.o k hlt;go_wp2;all_goals first
   | (go_ret;exact ⟨⟨_,rfl⟩,HB.o⟩)
   | (go_roundw
      case rel=>exact ⟨k+1,o_,za_,HB,hz,HC⟩
      case measure=>exact me_)
 have A0:¬(k:Int)<19:=by omega
 go_wp2_with (go_at_call 207;refine (Op_any _ _).mono ?_;rintro e w1 ⟨⟨q,b,rfl⟩,hb⟩;have A1:=q_ (HB.o.trans (hb.mono HB.o.size)));go_ret;exact ⟨⟨_,rfl⟩,A1.o⟩
theorem Has_any (A:OA) (n c:Nat) (s:ByteArray) (X:NP) (K:Nat) (w:World) (h:SlT w X K [.txt] A n c) (hK:K<=900000000):Calls prog 161 #[.slice A n c,.string s] w fun e w'=>RB e/\Below w w w':=by
 have hn:=h.le;have H:=q_ h;clear h;go_enter func161,ntmps161;go_upto_region 2 with fail;go_loopw [9] (fun i wr=>∃ k:Nat,k<=n/\i=i_ k/\Hid (wr=w)) (fun i _=>n - (intOf i).toNat)
 case atStart=>exact ⟨0,o_,rfl,q_ rfl⟩
 obtain ⟨k,hk,rfl,A1⟩:=hrel;have hw:=A1.o.symm;subst hw;clear A1;by_cases hlt:k<n
 ·have A0:(k:Int)<(n:Int):=by omega
  obtain ⟨g,o,rfl,hg,hX,vs,hv,hm⟩:=H.o.mt hlt;obtain ⟨u,hu,ht⟩:=hv.2 0 .txt rfl;obtain ⟨t,rfl⟩:=ht.str;have c0:w.cell? ⟨g,o+k,none⟩=some (.string t):=by have:=hm 0 _ hu;simpa using this
  clear hv hm hu ht;go_wp2;all_goals first
   | (go_ret;exact ⟨⟨_,rfl⟩,(bel (b_))⟩)
   | (go_roundw
      case rel=>exact ⟨k+1,o_,za_,q_ ve_⟩
      case measure=>exact me_)
 have A0:¬(k:Int)<(n:Int):=by omega
 exact t0_
theorem Name05_any (s:ByteArray) (w:World) (hsz:s.size<=100):Calls prog 186 #[.string s] w fun e w'=>RB e/\Below w w w':=by
 go_enter func186,ntmps186;go_upto_region 2 with fail;go_loopw [3] (fun i wr=>∃ k:Nat,k<=s.size/\i=i_ k/\Hid (wr=w)) (fun i _=>s.size - (intOf i).toNat)
 case atStart=>exact ⟨0,o_,rfl,q_ rfl⟩
 obtain ⟨k,hk,rfl,A1⟩:=hrel;have hw:=A1.o.symm;subst hw;clear A1;by_cases hlt:k<s.size
 ·have A0:(k:Int)<(s.size:Int):=by omega
  go_wp2;all_goals first
   | (go_ret;exact ⟨⟨_,rfl⟩,(bel (b_))⟩)
   | (go_roundw
      case rel=>exact ⟨k+1,o_,za_,q_ ve_⟩
      case measure=>exact me_)
 have A0:¬(k:Int)<(s.size:Int):=by omega
 go_wp2_with (go_at_call 201;refine (reserved_any _ _).mono ?_;rintro e w1 ⟨⟨b,rfl⟩,hb⟩;have A2:=q_ hb);all_goals
  go_ret;first | exact ⟨⟨_,rfl⟩,A2.o⟩ | exact ⟨⟨_,rfl⟩,(bel (b_))⟩
theorem results_tmp8 {P:Program} {fn:Func} {t1 t2 t3 t4 t5 t6 t7 t8:Tmp} (h:fn.results=#[.tmp t1,.tmp t2,.tmp t3,.tmp t4,.tmp t5,.tmp t6,.tmp t7,.tmp t8]) (tmps:Array Value) (w:World) :
  (results fn tmps).run P w=.ok (.tuple #[tmps.getD t1 undef,tmps.getD t2 undef,tmps.getD t3 undef,tmps.getD t4 undef,tmps.getD t5 undef,tmps.getD t6 undef,tmps.getD t7 undef,tmps.getD t8 undef]) w:=by
 simp [results,h]
def RPt (e:Ending):Prop:=∃ (m:Int) (a b c d f g k:Bool),e=.returned (.tuple #[i_ m,.bool a,.bool b,.bool c,.bool d,.bool f,.bool g,.bool k])
theorem parts_any (kd:Int) (w:World):Calls prog 203 #[i_ kd] w fun e w'=>RPt e/\Below w w w':=by
 go_enter func203,ntmps203;go_wp2;all_goals
  try simp only [Exit.inBlock,Exit.then]
  refine bodyPost_ret (results_tmp8 zc_ _ _) rfl ?_;exact ⟨⟨_,_,_,_,_,_,_,_,rfl⟩,(bel (b_))⟩
theorem Names_any (kd:Int) (w:World):Calls prog 189 #[i_ kd] w fun e w'=>RB e/\Below w w w':=by
 go_enter func189,ntmps189;go_wp2_with (go_at_call 203;refine (parts_any _ _).mono ?_;rintro e w1 ⟨⟨m,a,b,c,d,f,g,k,rfl⟩,hb⟩;have A0:=q_ hb);go_ret;exact ⟨⟨_,rfl⟩,A0.o⟩
theorem refwrite_fin {n i j c4 g f r b0:Nat} {l:List Ob} {A:OA} {w w4 T:World} {y:Ob} {v:Val} {u:Value} (hs:Hp w w A n l) (hw4:Below w w w4) (hrow:w4.ownsRow b0 90 2 (.slice (some (a_ g)) n c4) n (l.flatMap Ob.cells)) (hT:Below w4 w4 T)
  (hy:Sl T T 2 Val.cells (some (a_ f)) y.n y.s) (hyA:y.A=some (a_ f)) (hyn:y.n<=8796093021952) (hf:w4<=f) (hj:j<y.n) (hi:i<n) (hb0:w<=b0) (hr:w<=r) (hrb:r<b0) :
  Hp (((((T.setCell ⟨f,j*2,none⟩ (.bool v.ref)).setCell ⟨f,j*2+1,none⟩ (i_ v.n)).setCell ⟨g,i*2,none⟩ (i_ y.id)).setCell ⟨g,i*2+1,none⟩ (.slice (some (a_ f)) y.n y.c)).setCell (a_ r) u)
   (((((T.setCell ⟨f,j*2,none⟩ (.bool v.ref)).setCell ⟨f,j*2+1,none⟩ (i_ v.n)).setCell ⟨g,i*2,none⟩ (i_ y.id)).setCell ⟨g,i*2+1,none⟩ (.slice (some (a_ f)) y.n y.c)).setCell (a_ r) u).heap.size (some (a_ g)) n (l.set i ⟨y.id,y.A,y.n,y.c,y.s.set j v⟩):=by
 have hz:(((((T.setCell ⟨f,j*2,none⟩ (.bool v.ref)).setCell ⟨f,j*2+1,none⟩ (i_ v.n)).setCell ⟨g,i*2,none⟩ (i_ y.id)).setCell ⟨g,i*2+1,none⟩ (.slice (some (a_ f)) y.n y.c)).setCell (a_ r) u).heap.size=T:=by simp
 have Ad:=hT.size;have Ac:=hw4.size;have Aa:b0<=g/\g<w4:=hrow.lt g (by simp [Value.ownBlock]);have A5:=grown2 T f (j*2) (j*2+1) (.bool v.ref) (i_ v.n);obtain ⟨T1,A3⟩:=ex_ ((T.setCell ⟨f,j*2,none⟩ (.bool v.ref)).setCell ⟨f,j*2+1,none⟩ (i_ v.n));rw [<-A3] at A5;have A9:(T1:Nat)=T:=by rw [A3];simp
 have A6:=grown2 T1 g (i*2) (i*2+1) (i_ y.id) (.slice (some (a_ f)) y.n y.c);obtain ⟨T2,A4⟩:=ex_ ((T1.setCell ⟨g,i*2,none⟩ (i_ y.id)).setCell ⟨g,i*2+1,none⟩ (.slice (some (a_ f)) y.n y.c));rw [<-A4] at A6;have Ab:(T2:Nat)=T:=by rw [A4];simp [A9]
 have A7:=dw_ T2 (a_ r) u;have hl:=hs.sl.len;have A2:T1.ownsRow b0 90 2 (.slice (some (a_ g)) n c4) n (l.flatMap Ob.cells):=(own_below hrow hT).kept A5 (.inr (by intro e;simp [Value.ownBlock] at e;omega));have A1:T2.ownsRow b0 90 2 (.slice (some (a_ g)) n c4) n ((l.set i ⟨y.id,y.A,y.n,y.c,y.s.set j v⟩).flatMap Ob.cells):=by
  rw [A4];exact own_put2 Ob.size A2 hl hi ⟨y.id,y.A,y.n,y.c,y.s.set j v⟩ _ _ (by show [_,_]=_;rw [hyA])
 rw [hz];rw [<-A3,<-A4];refine ⟨((Sl.da_ Ob.size (by rw [List.length_set];exact hl) A1).apart (l_) A7 (fun _ ad A0 e=>by injection A0 with A0;subst A0;injection e with e;simp only at e;omega)).mono o_,fun o ho=>?_⟩;rcases List.mem_or_eq_of_mem_set ho with hm | rfl
 ·obtain ⟨o1,o2⟩:=hs.obs o hm;refine ⟨?_,o2⟩;have hb:∀ ad,0<o.n->o.A=some ad->ad.block<w:=fun ad h0 A0=>by
   obtain ⟨ab,ao,e,A8,_⟩:=o1.at_ h0;rw [A0] at e;injection e with e;subst e;exact A8
  have h1:=(o1.up hw4).up hT;refine ((h1.apart (l_) A5 (fun h0 ad A0 e=>?_)).apart o_ A6 (fun h0 ad A0 e=>?_)).apart o_ A7 (fun h0 ad A0 e=>?_)
  ·have:=hb ad h0 A0;injection e with e;omega
  ·have:=hb ad h0 A0;injection e with e;omega
  have:=hb ad h0 A0;injection e with e;simp only at e;omega
 refine ⟨?_,hyn⟩;have h2:=hy.put2 Val.size hj v (u:=.bool v.ref) (v:=i_ v.n) rfl ⟨f,j*2,none⟩ ⟨f,j*2+1,none⟩ (by rw [Nat.zero_add]) (by rw [Nat.zero_add]);rw [<-A3] at h2;show Sl _ _ 2 Val.cells y.A y.n (y.s.set j v)
 rw [hyA];exact (h2.apart o_ A6 (fun _ ad A0 e=>by injection A0 with A0;subst A0;injection e with e;simp only at e;omega)).apart o_ A7 (fun _ ad A0 e=>by injection A0 with A0;subst A0;injection e with e;simp only at e;omega)
theorem Write_t (X:NP) (K:Nat) (A:OA) (n c:Nat) (id f:Int) (v:Val) (w:World) (ht:SlT w X K objT A n c) (hK:K<=4398046510976) (hX:∀ k,X k->k<w) :
  Calls prog 129 #[.agg #[.slice A n c],i_ id,i_ f,.agg #[.bool v.ref,i_ v.n]] w fun e w'=>RHB X K e w'/\Below w w w':=by
 obtain ⟨l,hs,Ap⟩:=ht.hp o_;have hn:n<=4398046510976:=Nat.le_trans ht.le hK;have HT:=q_ ht;have Ah:=q_ Ap;have AG:=q_ hX;clear ht Ap hX;obtain ⟨i0,AT,AV,AW,AX⟩:=info_parts CloneObj.infoE;have HL:=q_ hs.sl.len;have HS:=q_ hs;obtain ⟨w2,A5⟩:=ex_ (((w.alloc (.cells #[.slice A n c] 35)).alloc (.cells #[.bool v.ref,i_ v.n] 38)).alloc (.cells #[.slice none 0 0] 35));have A7:Below w w w2:=by rw [A5];exact (bel (b_))
 have Ba:(w2:Nat)=w+3:=by rw [A5];simp
 have HA:=h_ (w2.cell? (a_ w)=some (.slice A n c)) (by rw [A5,ak_ _ _ _ _ y_,ak_ _ _ _ _ t_,ar_ _ _ _ _ _ rfl];rfl);have AM:=h_ (w2.cell? (a_ (w+1))=some (.bool v.ref)) va_;have AN:=h_ (w2.cell? (f_ (w+1) 1)=some (i_ v.n)) va_;have HD:=h_ (w2.cell? (a_ (w+2))=some (.slice none 0 0)) (by rw [A5,ar_ _ _ _ _ _ t_];rfl);have HF:=h_ (w2.frozen? (a_ (w+2))=false) (by rw [A5,bw_ _ _ _ _ _ t_]);have As:=q_ (hs.up A7);clear hs;go_enter func129,ntmps129;go_wp2_with fail;rw [<-A5];have HW:=q_ A5;clear A5;refine (refread_any A n c l id f w2 As.o o_).mono ?_;rintro e w3 ⟨rfl,Ag⟩;have AZ:=Ag.size;have e0:w3.cell? (a_ w)=some (.slice A n c):=(belc Ag o_).trans HA.o;have e3:w3.cell? (a_ (w+2))=some (.slice none 0 0):=(belc Ag o_).trans HD.o;have f3:w3.frozen? (a_ (w+2))=false:=(belf Ag o_).trans HF.o;have q0:(w:Nat)<w3:=by omega
 have q1:(w:Nat)+1<w3:=by omega
 have q2:(w:Nat)+2<w3:=by omega
 have Az:Below w w w3:=A7.trans (Ag.mono A7.size);cases hrb:readB id f (l.map Ob.po) with
 | false =>
  have HR:=q_ (wrote_no (v:=v) hrb);have AQ:=q_ hrb;clear hrb;go_wp2;refine bodyPost_ret (v:=.tuple #[.agg #[.slice none 0 0],.bool false]) (by simp [results,results129,go_sem,e3,World.cell?_alloc_lt,q2]) rfl ?_;exact ⟨⟨none,0,0,false,rfl,q_ ⟨Nat.zero_le _,l_,o_,fun _=>⟨rfl,rfl⟩,fun _ h=>by cases h⟩⟩,(bel Az)⟩
 | true =>
  obtain ⟨i,j,x0,hi,AE,rfl,hj⟩:=readB_true hrb;obtain ⟨x,hx,rfl⟩:=po_at' AE;have HR:=q_ ((wrote_at (v:=v) hrb hi).trans (writeO_set AE));have AQ:=q_ hrb;have HI:=h_ (idxI id (l.map Ob.po)=i) y0_;have hin:i<n:=by rw [<-HL.o];exact (e_ hx).1
  have HX:=q_ hx;have HJ:=q_ hj;clear hrb hi AE hx hj;obtain ⟨W0,AH⟩:=ex_ (w3.alloc (.cells #[.bool (readD id (j:Int) (l.map Ob.po)).ref,i_ (readD id (j:Int) (l.map Ob.po)).n] 38));have Aj:Below w3 w3 W0:=by rw [AH];exact (bel (b_))
  have B1:=Aj.size;have A8:Below w2 w2 W0:=Ag.trans (Aj.mono AZ);have AF:=q_ ((As.o.up A8).sl.src Ob.size);have c0:W0.cell? (a_ w)=some (.slice A n c):=(belc A8 o_).trans HA.o;have s0:(w:Nat)<W0:=by omega
  go_wp2_with (at_builtin;rw [<-AH];refine ca_ rfl _ _ 33 rfl W0 90 i0 _ 2 32 underlying33 AT AV AW AX rfl d_ (.slice none 0 0) 0 [] zb_ (World.ownsRow_nil _ _ _ _) A n c (l.flatMap Ob.cells) zb_ AF.o.1 (by rw [ee_ Ob.size,HL.o]) AF.o.2 (ob_one l) m_ o_ (l_) ?_;intro A4 c4 w4 Aa An Au;have H4:=q_ Aa;have Aw:Below W0 W0 w4:=(b_).grown An (l_) (fun k hk=>by cases hk);have Bb:=Aw.size;have d0:=(belc Aw (b:=w) (o:=0) o_).trans c0;have s1:(w:Nat)<w4:=o_;clear Aa An Au);obtain ⟨W1,Af⟩:=ex_ (w4.alloc (.cells #[.slice A4 n c4] 35));have Ak:Below w4 w4 W1:=by rw [Af];exact (bel (b_))
  have B2:(W1:Nat)=w4+1:=by rw [Af];simp
  have A0:=own_eq (Nat.zero_add n) H4.o;rw [List.nil_append] at A0;obtain ⟨g,Au,B7,Ar,AB⟩:=dr_ A0 o_;subst Au;have AD:=Sl.da_ Ob.size HL.o A0;have Ai:=q_ A0;have g0:w4.cell? ⟨g,i*2,none⟩=some (i_ x.id):=by have:=sl_at AD HX.o (j:=0) rfl;rwa [Nat.zero_add] at this
  have g1:w4.cell? ⟨g,i*2+1,none⟩=some (.slice x.A x.n x.c):=by have:=sl_at AD HX.o (j:=1) rfl;rwa [Nat.zero_add] at this
  have z0:=AB (i*2);have z1:=AB (i*2+1);have k4:W1.cell? (a_ w4)=some (.slice (some (a_ g)) n c4):=by rw [Af,ar_ _ _ _ _ _ rfl];rfl
  have Ac:Below w2 w2 w4:=A8.trans (Aw.mono A8.size);have Ad:Below w2 w2 W1:=Ac.trans (Ak.mono Ac.size);rw [<-Af];have B3:=q_ Af;clear Af A0 AD AB c0 d0 e0;refine (refat_any A n c l id W1 (As.o.up Ad).sl o_).mono ?_;rintro e w5 ⟨rfl,Ax⟩;rw [HI.o];have B0:=Ax.size;have A9:Below w2 w2 w5:=Ad.trans (Ax.mono Ad.size);have Ae:Below w w w5:=A7.trans (A9.mono A7.size);have a0:w5.cell? (a_ w)=some (.slice A n c):=(belc A9 o_).trans HA.o;have AL:=HS.o.sl;obtain ⟨ab,ao,AS,AK,Av⟩:=AL.at_ o_;subst AS;have b0:w5.cell? ⟨ab,ao+i*2,none⟩=some (i_ x.id):=(belc Ae AK).trans (Av i x HX.o 0 _ rfl);have b1:w5.cell? ⟨ab,ao+i*2+1,none⟩=some (.slice x.A x.n x.c):=(belc Ae AK).trans (Av i x HX.o 1 _ rfl);obtain ⟨o1,o2⟩:=HS.o.obs x (List.mem_of_getElem? HX.o);have AU:(i:Int)<(n:Int):=by omega
  clear Av AL;go_wp2_with fail;refine (object_any x w5 (o1.up Ae) o2).mono ?_;rintro e w6 ⟨A6,n6,c6,rfl,A3,AC,Ay⟩;have Bc:=Ay.size;have B9:x.s.length=x.n:=o1.len;have AJ:j<x.s.length:=HJ.o;have Ao:n6=x.s.length:=AC;obtain ⟨f,AR,B5,B6,AA⟩:=dr_ A3.o o_;subst AR;have Aq:=Sl.da_ Val.size AC.symm A3.o;obtain ⟨t,ht⟩:∃ t,x.s[j]?=some t:=⟨_,ge_ AJ⟩;have t0:w6.cell? ⟨f,j*2,none⟩=some (.bool t.ref):=by have:=sl_at Aq (i:=j) (x:=t) ht (j:=0) rfl;rwa [Nat.zero_add] at this
  have t1:w6.cell? ⟨f,j*2+1,none⟩=some (i_ t.n):=by have:=sl_at Aq (i:=j) (x:=t) ht (j:=1) rfl;rwa [Nat.zero_add] at this
  have y0:=AA (j*2);have y1:=AA (j*2+1);have A2:Below w2 w2 w6:=A9.trans (Ay.mono A9.size);have Al:Below W1 W1 w6:=Ax.trans (Ay.mono B0);have A1:Below w4 w4 w6:=Ak.trans (Al.mono o_);have m1:w6.cell? (a_ (w+1))=some (.bool v.ref):=(belc A2 o_).trans AM.o;have m2:w6.cell? (f_ (w+1) 1)=some (i_ v.n):=(belc A2 o_).trans AN.o;have m3:w6.cell? (a_ (w+2))=some (.slice none 0 0):=(belc A2 o_).trans HD.o;have m4:w6.frozen? (a_ (w+2))=false:=(belf A2 o_).trans HF.o;have m5:w6.cell? (a_ w4)=some (.slice (some (a_ g)) n c4):=(belc Al o_).trans k4;have m6:w6.cell? ⟨g,i*2,none⟩=some (i_ x.id):=(belc A1 Ar).trans g0;have m7:w6.cell? ⟨g,i*2+1,none⟩=some (.slice x.A x.n x.c):=(belc A1 Ar).trans g1;have m8:w6.frozen? ⟨g,i*2,none⟩=false:=(belf A1 Ar).trans z0;have m9:w6.frozen? ⟨g,i*2+1,none⟩=false:=(belf A1 Ar).trans z1;have l1:(w:Nat)+1<w6:=by omega
  have l2:(w:Nat)+2<w6:=by omega
  have l3:(w4:Nat)<w6:=by omega
  have l4:g<w6:=by omega
  have d1:w+1≠f:=by omega
  have d2:w+2≠f:=by omega
  have d3:w4≠f:=by omega
  have d4:g≠f:=by omega
  have d5:w4≠g:=by omega
  have d6:w6≠f:=by omega
  have d7:w6≠g:=by omega
  have d8:w+2≠g:=by omega
  have B8:(j:Int)<(n6:Int):=by omega
  have AP:=q_ Ao;have AO:=q_ Aq;clear k4 g0 g1 z0 z1 a0 b0 b1 AC Ao Aq AA ht AJ;go_wp2;refine bodyPost_ret (v:=.tuple #[.agg #[.slice (some (a_ g)) n c4],.bool true]) (by simp [results,results129,go_sem,m3,World.cell?_alloc_lt,l2]) rfl ?_;have AY:Below w w w4:=A7.trans (Ac.mono A7.size);have B4:=AP.o;have Am:=(refwrite_fin (T:=w6) (y:=⟨x.id,some (a_ f),n6,c6,x.s⟩) (j:=j) (i:=i) (v:=v) (r:=w+2) (u:=.slice (some (a_ g)) n c4) HS.o AY Ai.o A1 AO.o rfl (by show n6<=8796093021952;omega) o_ (by show j<n6;omega) hin o_ o_ o_).up ((b_).alloc (l_) (.cells #[i_ x.id,.slice (some (a_ f)) n6 c6] 90));have AI:Below w w ((((((w6.setCell ⟨f,j*2,none⟩ (.bool v.ref)).setCell ⟨f,j*2+1,none⟩ (i_ v.n)).setCell ⟨g,i*2,none⟩ (i_ x.id)).setCell ⟨g,i*2+1,none⟩ (.slice (some (a_ f)) n6 c6)).setCell (a_ (w+2)) (.slice (some (a_ g)) n c4)).alloc (.cells #[i_ x.id,.slice (some (a_ f)) n6 c6] 90)):=by
   have hb:Below w w w6:=A7.trans (A2.mono A7.size);exact (((((hb.setCell vj_ _).setCell vj_ _).setCell yb_ _).setCell yb_ _).setCell y_ _).alloc zm_ _
  refine ⟨⟨_,n,c4,true,rfl,q_ (SlT.of_sl (e:=objT) Am.sl ?_ ?_ HT.o.le ?_)⟩,AI⟩
  ·refine (form_own Ai.o).mono ?_;have:=A1.size
   (simp <;> omega)
  ·intro ad Ab hx;injection Ab with Ab;subst Ab;have:=AG.o g hx;omega
  intro o ho;refine vts_ob ?_;rcases List.mem_or_eq_of_mem_set ho with hm | rfl
  ·exact (Ah.o o hm).up (Kp.of_below AI) (l_)
  refine SlT.of_vals (Am.obs _ ho).1 ?_ ?_ ?_
  ·refine (form_own A3.o).mono ?_
   (simp <;> omega)
  ·intro ad Ab hx;injection Ab with Ab;subst Ab;have:=AG.o f hx;omega
  have h1:=(Ah.o x (List.mem_of_getElem? HX.o)).le;show n6<=K
  omega
end Go.Proofs.YtfolidlmgfhkiaaGreat
namespace Go.Proofs.YtfolidlmgfhkiaaGreat.Dl
open Go.RowKit Go.Proofs.Tryz
def Gives (ts':List Pr) (w:World) (e:Ending) (w':World):Prop:=∃ A' n' c',e=.returned (.agg #[.slice A' n' c'])/\Sl w' w' 3 Pr.cells A' n' ts'/\Below w w w'/\(∀ ad,A'=some ad->w<=ad.block)
theorem one_cells (ts:List Pr):∀ u ∈ ts.flatMap Pr.cells,u.oneCell'=true:=by
 intro u hu;obtain ⟨t,_,ht⟩:=List.mem_flatMap.1 hu;simp [Pr.cells] at ht;rcases ht with rfl | rfl | rfl <;> rfl
theorem heap_alloc_new (w:World) (o:Obj):(w.alloc o).heap[w.heap.size]?=some o:=heap_new w o
theorem sl_upd {w2 F:World} {g n k:Nat} {ts:List Pr} {t:Pr} (hl:ts.length=n) (hg:g<F) (ht:ts[k]?=some t)
  (hold:∀ (i:Nat) (x:Pr),ts[i]?=some x->∀ (j:Nat) (u:Value),(Pr.cells x)[j]?=some u->w2.cell? ⟨g,i*3+j,none⟩=some u)
  (hoth:∀ o,(o<k*3\/k*3+3<=o)->F.cell? (f_ g o)=w2.cell? (f_ g o))
  (hnew:∀ (j:Nat) (u:Value),(Pr.cells (upd t))[j]?=some u->F.cell? ⟨g,k*3+j,none⟩=some u) :
  Sl F F 3 Pr.cells (some (a_ g)) n (ts.modify k upd):=by
 refine ⟨by rw [List.length_modify,hl],fun _=>⟨g,0,rfl,hg,fun i x hx j u hu=>?_⟩⟩;have hj:j<3:=by have:=(e_ hu).1;rwa [Pr.size] at this
 rw [Nat.zero_add];rw [List.getElem?_modify] at hx;by_cases hik:k=i
 ·subst hik;rw [ht] at hx;simp at hx;subst hx;exact hnew j u hu
 simp [hik] at hx;rw [hoth _ o_];exact hold i x hx j u hu
theorem three {t:Pr} {P:Nat->Value->Prop} (h0:P 0 (i_ t.a)) (h1:P 1 (i_ t.b)) (h2:P 2 (i_ t.cnt)):∀ (j:Nat) (u:Value),(Pr.cells t)[j]?=some u->P j u:=by
 intro j u hu
 match j,hu with
 | 0,hu=>simp [Pr.cells] at hu;subst hu;exact h0
 | 1,hu=>simp [Pr.cells] at hu;subst hu;exact h1
 | 2,hu=>simp [Pr.cells] at hu;subst hu;exact h2
 | j+3,hu=>simp [Pr.cells] at hu
theorem train_any (A:OA) (n c:Nat) (ts:List Pr) (a b:Int) (w:World) (hs:Sl w w 3 Pr.cells A n ts) (hn:n<=900000) (hgood:Good ts) :
  Calls prog 29 #[.agg #[.slice A n c],i_ a,i_ b] w (Gives (bv_ ts a b) w):=by
 have HS:=q_ hgood.1;have Ar:=q_ hgood.2;have A2:=q_ hs.len;clear hgood;go_enter func29,ntmps29;go_wp2_with fail;obtain ⟨W,hW⟩:=ex_ ((w.alloc (.cells #[.slice A n c] 73)).alloc (.cells #[.slice none 0 0] 73));rw [<-hW];have Am:Below w w W:=by rw [hW];exact (bel (b_))
 have An:(W:Nat)=w+2:=by rw [hW];simp
 have Aq:=(hs.below Am).mono (B':=W) o_;refine (CloneTrk.any A n c (ts.flatMap Pr.cells) W (Aq.src Pr.size).1 (Aq.src Pr.size).2 (by rw [ee_ Pr.size,hs.len]) o_ (one_cells ts)).mono ?_;rintro e w1 ⟨A1,c1,rfl,A6,Ad⟩;have AF:=Ad.size;have d0:=(belc Ad (b:=w) (o:=0) o_).trans (show W.cell? (a_ w)=some (.slice A n c) from zs_);have d3:=(belc Ad (b:=w+1) (o:=0) o_).trans (show W.cell? (a_ (w+1))=some (.slice none 0 0) from zn_);have d4:=(belf Ad (b:=w+1) (o:=0) o_).trans (show W.frozen? (a_ (w+1))=false from xc_);have HZ:=q_ An;have A8:Below w w w1:=Am.trans (Ad.mono o_);clear hW An;go_wp2_with fail;refine (search_any A n c ts a b w1 (hs.up A8) HS.o o_).mono ?_;rintro e w2 ⟨rfl,Ae⟩;have AG:=Ae.size;have A9:Below w w w2:=A8.trans (Ae.mono A8.size);have e3:=(belc Ae (b:=w+1) (o:=0) wf_).trans d3;have e4:=(belf Ae (b:=w+1) (o:=0) wf_).trans d4;have A0:=own_below A6 Ae;have Ao:∀ k,(Value.slice A1 n c1).ownBlock=some k->w+2<=k/\k<w1:=fun k hk=>by have:=A6.lt k hk;have:=HZ.o;omega
 have Ab:=q_ Ao;have Ap:(w:Nat)+1<w2:=by have:=HZ.o;omega
 clear Ao d0 d3 d4;by_cases hh:hit ts a b=true
 ·have HH:=q_ hh;rw [HH.o];obtain ⟨t,ht,AA,AB⟩:=hit_some hh;have Ag:lowb ts a b<n:=by rw [<-A2.o];exact (e_ ht).1
  obtain ⟨g,c2,Ah,AD,Ax⟩:=A0.form o_;injection Ah with Ah _ hc12;subst Ah hc12;obtain ⟨k,hk⟩:=ex_ (lowb ts a b);rw [<-hk] at ht Ag;rw [<-hk];have Aw:=Ab.o g rfl;have A5:∀ (i:Nat) (x:Pr),ts[i]?=some x->∀ (j:Nat) (u:Value),(Pr.cells x)[j]?=some u->w2.cell? ⟨g,i*3+j,none⟩=some u:=fun i x hx j u hu=>by
   have hj:j<3:=by have:=(e_ hu).1;rwa [Pr.size] at this
   have hi:=(e_ hx).1;rw [A2.o] at hi;rw [A0.cellAt _ o_];exact flat_get Pr.size ts i x hx j u hu
  have f0:w2.cell? ⟨g,k*3,none⟩=some (i_ t.a):=A5 k t ht 0 _ rfl;have f1:w2.cell? ⟨g,k*3+1,none⟩=some (i_ t.b):=A5 k t ht 1 _ rfl;have f2:w2.cell? ⟨g,k*3+2,none⟩=some (i_ t.cnt):=A5 k t ht 2 _ rfl;have fz:∀ j,w2.frozen? (f_ g j)=false:=fun j=>A0.frozenAt j
  have Ac:=h_ (bv_ ts a b=ts.modify k upd) (by rw [bv_,hh,hk];rfl);obtain ⟨Ay,Az⟩:=Ar.o k t ht;have HO:=q_ A5;have HT:=q_ ht;have AE:¬g=w+1:=by omega
  have Ai:w<=g:=by omega
  have Au:=q_ A0;clear hh ht hk A5 Aw A6 A0 AA AB;go_wp2;all_goals
   refine bodyPost_ret (v:=.agg #[.slice (some (a_ g)) n c1]) (by simp [results,results29,go_sem,e3]) rfl ⟨_,n,c1,rfl,?_,(bel A9),by rintro ad ⟨⟩;exact Ai⟩;rw [Ac.o];refine sl_upd (w2:=w2) A2.o (by simpa using Ax) HT.o HO.o (fun o ho=>?_) (three ?_ ?_ ?_)
   ·repeat rw [bk_ _ _ _ _ zp_]
   ·simp [go_sem,upd,f0]
   ·simp [go_sem,upd,f1]
   simp [go_sem,upd,f2] <;> omega
 have hh:hit ts a b=false:=by simpa using hh
 have HH:=q_ hh;rw [HH.o];by_cases hlt:n<256
 ·have Ac:=h_ (bv_ ts a b=ts.take (lowb ts a b) ++ ⟨a,b,1⟩ :: ts.drop (lowb ts a b)) (by rw [bv_,hh,if_neg t_,if_pos (by rw [A2.o];exact hlt)]);have Aj:(n:Int)<256:=by omega
  have Ag:=lowb_le ts a b;rw [A2.o] at Ag;clear hh;go_wp2_with fail;refine (InsTrk.any (.slice A1 n c1) n (lowb ts a b) (ts.flatMap Pr.cells) (Pr.cells ⟨a,b,1⟩) W.heap.size w2.heap.size _ (A0.alloc _) Ag o_ zm_ rfl (heap_alloc_new w2 _) (fun e=>by have:=Ab.o _ e;omega) z6_ (one_cells ts)).mono ?_;rintro e w3 ⟨A3,c3,rfl,A4,A7⟩;have AC:=A7.size;simp only [World.size_alloc] at AC;have g3:w3.cell? (a_ (w.heap.size+1))=some (.slice none 0 0):=((gcell A7).1 _ _ zm_ (fun e=>by have:=Ab.o _ e.symm;omega)).trans ((ak_ _ _ _ _ Ap).trans e3);have g4:w3.frozen? (a_ (w.heap.size+1))=false:=((gcell A7).2 _ _ zm_ (fun e=>by have:=Ab.o _ e.symm;omega)).trans ((dv_ _ _ _ _ Ap).trans e4);have Av:Below w.heap.size w w3:=A9.trans (((b_).alloc o_ _).grown A7 zm_ (fun k hk=>by have:=Ab.o _ hk;omega));have Aa:(Value.slice A3 (n+1) c3).ownBlock≠some (w.heap.size+1):=fun e=>by have:=A4.lt _ e;have:=HZ.o;omega
  have Af:(ts.flatMap Pr.cells).take (lowb ts a b*3) ++ Pr.cells ⟨a,b,1⟩ ++ (ts.flatMap Pr.cells).drop (lowb ts a b*3)=(bv_ ts a b).flatMap Pr.cells:=by
   rw [flat_take Pr.size,flat_drop Pr.size,Ac.o];simp
  rw [Af] at A4;have As:=h_ ((bv_ ts a b).length=n+1) (by rw [Ac.o];simp [A2.o];omega);have Al:=q_ A4;clear Af A4 A0 A6;go_wp2;refine bodyPost_ret (v:=.agg #[.slice A3 (n+1) c3]) (by simp [results,results29,go_sem,g3]) rfl ⟨A3,n+1,c3,rfl,?_,(bel Av),own_lo Al.o wf_⟩;exact Sl.da_ Pr.size As.o (ba_ Al.o _ Aa)
 have Ac:=h_ (bv_ ts a b=ts) (by rw [bv_,hh,if_neg t_,if_neg (by rw [A2.o];exact hlt)]);have Aj:¬(n:Int)<256:=by omega
 have Aa:(Value.slice A1 n c1).ownBlock≠some (w.heap.size+1):=fun e=>by have:=Ab.o _ e;omega
 have Ak:=q_ A0;clear hh A6 A0;go_wp2;refine bodyPost_ret (v:=.agg #[.slice A1 n c1]) (by simp [results,results29,go_sem,e3]) rfl ⟨A1,n,c1,rfl,?_,(bel A9),own_lo Ak.o wf_⟩;rw [Ac.o];exact Sl.da_ Pr.size A2.o (ba_ Ak.o _ Aa)
end Go.Proofs.YtfolidlmgfhkiaaGreat.Dl
namespace Go.Proofs.YtfolidlmgfhkiaaGreat
open Go.RowKit Go.Proofs.Tryz
theorem Read_t (X:NP) (K:Nat) (A:OA) (n c:Nat) (id f:Int) (w:World) (h:SlT w X K objT A n c) (hK:K<=8796093021952) :
  Calls prog 17 #[.agg #[.slice A n c],i_ id,i_ f] w fun e w'=>(∃ (v:Val) (b:Bool),e=.returned (.tuple #[.agg #[.bool v.ref,i_ v.n],.bool b]))/\Below w w w':=by
 obtain ⟨l,hs,_⟩:=h.hp hK;refine (refread_any A n c l id f w hs (Nat.le_trans h.le o_)).mono ?_;rintro e w' ⟨rfl,hb⟩;exact ⟨⟨_,_,rfl⟩,hb⟩
theorem Reduced_t (X:NP) (K:Nat) (A:OA) (n c:Nat) (L:Nat) (B:OA) (m d:Nat) (w:World) (h:SlT w X K objT A n c) (hK:K<=4398046510976) (hl:SlT w X L bn_ B m d) (hL:L<=4398046510976) (hX:∀ k,X k->k<w) :
  Calls prog 134 #[.agg #[.slice A n c],.slice B m d] w fun e w'=>RH X K e w'/\Below w w w':=by
 obtain ⟨W,hW,A5,AA,B0,B1⟩:=cn_ w [.slice A n c] 35 [.slice none 0 0] 35;have H:=q_ (h.kept (Y:=fun k=>X k\/k=w\/k=w+1) (Kp.of_below A5) (fun k hk h1 h2=>by rcases h2 with h2 | h2 | h2;exact h1 h2;omega;omega) (Nat.le_refl K));have HL:=q_ (hl.kept (Y:=fun k=>X k\/k=w\/k=w+1) (Kp.of_below A5) (fun k hk h1 h2=>by rcases h2 with h2 | h2 | h2;exact h1 h2;omega;omega) (Nat.le_refl L));have HW:=q_ A5;have Aj:=q_ B0;have Ak:=q_ B1;have hm:m<=4398046510976:=Nat.le_trans hl.le hL;have Av:=h_ (∀ k,(X k\/k=w\/k=w+1)->k<W) (fun k hk=>by rcases hk with hk | hk | hk;have:=hX k hk;omega;omega;omega);have AD:=q_ hX;have AE:(w:Nat)<W:=by omega
 have AF:(w:Nat)+1<W:=by omega
 clear h hl hX B0 B1 A5 AA;go_enter func134,ntmps134;go_upto_region 1 with fail;rw [<-hW];clear hW;go_upto_region 2 with fail;go_loopw [13] (fun i wr=>∃ (k:Nat) (C:OA) (q d:Nat),k<=m/\i=i_ k/\Hid (SlT wr (fun k=>X k\/k=w\/k=w+1) K objT C q d)/\Hid (Bx wr w [.slice C q d])/\Hid (Bx wr (w+1) [.slice none 0 0])/\Hid (Kp (fun k=>k=w) W wr)) (fun i _=>m - (intOf i).toNat)
 case atStart=>exact ⟨0,A,n,c,o_,rfl,H,Aj,Ak,q_ (Kp.refl _ _)⟩
 obtain ⟨k,C,q,d2,hk,rfl,hC,A6,A7,A8⟩:=hrel;have AH:=A8.o.size;have c0:=A6.o.2.1 0 _ rfl;have f0:=A6.o.2.2;have e0:=A7.o.2.1 0 _ rfl;have g0:=A7.o.2.2;by_cases hlt:k<m
 ·have Ac:(k:Int)<(m:Int):=by omega
  obtain ⟨g,o,rfl,hg,x,hx⟩:=(HL.o.up (A8.o.mono (fun k _ h=>.inr (.inl h))) (Nat.le_refl L)).delta_at hlt;obtain ⟨c4,c5,c6,c7,c9⟩:=hx wr (b_);obtain ⟨V,hV,A0,Az,V0⟩:=ag_ wr [i_ x.id,i_ x.field,i_ x.op,.bool x.ref,i_ x.n] 174;have v0:=V0.2.1 0 _ rfl;have v1:=V0.2.1 1 _ rfl;have c8:=(A6.o.below A0).2.1 0 _ rfl;have As:=q_ (A6.o.below A0);have Au:=q_ (A7.o.below A0);have A4:=q_ V0;have Ae:=q_ (hC.o.up (Kp.of_below A0) (Nat.le_refl K));have Ao:=q_ (A8.o.trans (.of_below A0));clear hx A0 Az V0 c0 f0 e0 g0;go_upto_region 4 with fail;rw [<-hV];clear hV c4 c5 c6 c7 c9;go_wp2_with fail;refine (Read_t (fun k=>X k\/k=w\/k=w+1) K C q d2 x.id x.field V Ae.o o_).mono ?_;rintro e Y ⟨⟨v,b,rfl⟩,hY⟩;obtain ⟨U,hU,Ai,Ay,U0⟩:=ag_ Y [.bool v.ref,i_ v.n] 38;have A1:Below V V U:=hY.trans (Ai.mono hY.size);have Aq:=q_ (As.o.below A1);have Ar:=q_ (Au.o.below A1);have A3:=q_ (A4.o.below A1);have AC:=q_ U0;have Al:=q_ (Ae.o.up (Kp.of_below A1) (Nat.le_refl K));have An:=q_ (Ao.o.trans (.of_below A1));have y0:=(A4.o.below hY).2.1 2 _ rfl;have y1:=(A4.o.below hY).2.1 3 _ rfl;have y2:=(A4.o.below hY).2.1 4 _ rfl;have u0:=A3.o.2.1 2 _ rfl;have u1:=A3.o.2.1 3 _ rfl;have u2:=A3.o.2.1 4 _ rfl;have u3:=U0.2.1 0 _ rfl;have u4:=U0.2.1 1 _ rfl;clear hY A1 Ai Ay U0 c8 v0 v1;go_upto_region 5 with fail;rw [<-hU];clear hU y0 y1 y2;go_wp2_with fail;refine (Apply_any x.op v ⟨x.ref,x.n⟩ U).mono ?_;rintro e Z ⟨⟨nn,ff,rfl⟩,hZ⟩;obtain ⟨T,hT,Ah,Ax,T0⟩:=ag_ Z [.bool false,i_ nn] 38;have A2:Below U U T:=hZ.trans (Ah.mono hZ.size);have Ab:=q_ (Aq.o.below A2);have Ag:=q_ (Ar.o.below A2);have Af:=q_ (A3.o.below A2);have AB:=q_ T0;have Ad:=q_ (Al.o.up (Kp.of_below A2) (Nat.le_refl K));have A9:=q_ (An.o.trans (.of_below A2));have t0:=Ab.o.2.1 0 _ rfl;have t1:=Af.o.2.1 0 _ rfl;have t2:=Af.o.2.1 1 _ rfl;have t3:=T0.2.1 0 _ rfl;have t4:=T0.2.1 1 _ rfl;have AG:=A9.o.size;clear hZ A2 Ah Ax T0 u0 u1 u2 u3 u4;go_upto_region 6 with fail;rw [<-hT];clear hT;go_wp2_with (go_at_call 129;refine (Write_t (fun k=>X k\/k=w\/k=w+1) K C q d2 x.id x.field ⟨false,nn⟩ T Ad.o hK (fun k hk=>by have:=Av.o k hk;omega)).mono ?_;rintro e S ⟨⟨C2,q2,d3,b2,rfl,Aw⟩,hS⟩;have Aa:=q_ (Ab.o.below hS);have Ap:=q_ (Ag.o.below hS);have Am:=q_ (A9.o.trans (.of_below hS));have s0:=Aa.o.2.1 0 _ rfl;have s1:=Aa.o.2.2;clear hS);all_goals first
   | (go_roundw
      case rel=>exact ⟨k+1,C2,q2,d3,o_,za_,q_ (Aw.o.up ((Kp.refl _ S).setCell (.inl (.inr (.inl rfl))) _) (Nat.le_refl K)),q_ (Aa.o.set 0 _),q_ (Ap.o.far z3_ _),q_ (Am.o.setCell (.inl rfl) _)⟩
      case measure=>exact me_)
   | (go_roundw
      case rel=>exact ⟨k+1,C,q,d2,o_,za_,Ad,Ab,Ag,A9⟩
      case measure=>exact me_)
 have Ac:¬(k:Int)<(m:Int):=by omega
 go_wp2;refine retC results134 zc_ underlying35 rfl k_ (cs:=[_]) (A7.o.set 0 _).whole rfl ?_;have hb:Below w w (wr.setCell (a_ (w+1)) (.slice C q d2)):=(HW.o.trans (A8.o.below (B:=w) o_ (fun k hk h=>o_))).setCell z5_ _;exact ur_
theorem Written_t (X:NP) (K:Nat) (A:OA) (n c:Nat) (L:Nat) (B:OA) (m d:Nat) (w:World) (h:SlT w X K objT A n c) (hK:K<=4398046510976) (hl:SlT w X L aq_ B m d) (hL:L<=4398046510976) (hX:∀ k,X k->k<w) :
  Calls prog 135 #[.agg #[.slice A n c],.slice B m d] w fun e w'=>RH X K e w'/\Below w w w':=by
 obtain ⟨W,hW,A2,Aj,B0,B1⟩:=cn_ w [.slice A n c] 35 [.slice none 0 0] 35;have H:=q_ (h.kept (Y:=fun k=>X k\/k=w\/k=w+1) (Kp.of_below A2) (fun k hk h1 h2=>by rcases h2 with h2 | h2 | h2;exact h1 h2;omega;omega) (Nat.le_refl K));have HL:=q_ (hl.kept (Y:=fun k=>X k\/k=w\/k=w+1) (Kp.of_below A2) (fun k hk h1 h2=>by rcases h2 with h2 | h2 | h2;exact h1 h2;omega;omega) (Nat.le_refl L));have HW:=q_ A2;have Aa:=q_ B0;have Ab:=q_ B1;have hm:m<=4398046510976:=Nat.le_trans hl.le hL;have Ag:=h_ (∀ k,(X k\/k=w\/k=w+1)->k<W) (fun k hk=>by rcases hk with hk | hk | hk;have:=hX k hk;omega;omega;omega);have Ak:=q_ hX;have Al:(w:Nat)<W:=by omega
 have Am:(w:Nat)+1<W:=by omega
 clear h hl hX B0 B1 A2 Aj;go_enter func135,ntmps135;go_upto_region 1 with fail;rw [<-hW];clear hW;go_upto_region 2 with fail;go_loopw [11] (fun i wr=>∃ (k:Nat) (C:OA) (q d:Nat),k<=m/\i=i_ k/\Hid (SlT wr (fun k=>X k\/k=w\/k=w+1) K objT C q d)/\Hid (Bx wr w [.slice C q d])/\Hid (Bx wr (w+1) [.slice none 0 0])/\Hid (Kp (fun k=>k=w) W wr)) (fun i _=>m - (intOf i).toNat)
 case atStart=>exact ⟨0,A,n,c,o_,rfl,H,Aa,Ab,q_ (Kp.refl _ _)⟩
 obtain ⟨k,C,q,d2,hk,rfl,hC,A3,A4,A5⟩:=hrel;have Ap:=A5.o.size;have c0:=A3.o.2.1 0 _ rfl;have f0:=A3.o.2.2;have e0:=A4.o.2.1 0 _ rfl;have g0:=A4.o.2.2;by_cases hlt:k<m
 ·have A6:(k:Int)<(m:Int):=by omega
  obtain ⟨g,o,rfl,hg,x,hx⟩:=(HL.o.up (A5.o.mono (fun k _ h=>.inr (.inl h))) (Nat.le_refl L)).ds_ hlt;obtain ⟨c4,c5,c6,c7⟩:=hx wr (b_);obtain ⟨V,hV,A0,Ai,V0⟩:=ag_ wr [i_ x.id,i_ x.field,.bool x.ref,i_ x.n] 87;have v0:=V0.2.1 0 _ rfl;have v1:=V0.2.1 1 _ rfl;have v2:=V0.2.1 2 _ rfl;have v3:=V0.2.1 3 _ rfl;have c8:=(A3.o.below A0).2.1 0 _ rfl;have Ae:=q_ (A3.o.below A0);have Af:=q_ (A4.o.below A0);have A7:=q_ (hC.o.up (Kp.of_below A0) (Nat.le_refl K));have Ad:=q_ (A5.o.trans (.of_below A0));have An:=A0.size;clear hx A0 Ai V0 c0 f0 e0 g0;go_upto_region 4 with fail;rw [<-hV];clear hV c4 c5 c6 c7;go_wp2_with fail;refine (Write_t (fun k=>X k\/k=w\/k=w+1) K C q d2 x.id x.field ⟨x.ref,x.n⟩ V A7.o hK (fun k hk=>by have:=Ag.o k hk;omega)).mono ?_;rintro e Y ⟨⟨C2,q2,d3,b,rfl,Ah⟩,hY⟩;have A1:=q_ (Ae.o.below hY);have A9:=q_ (Af.o.below hY);have Ac:=q_ (A7.o.up (Kp.of_below hY) (Nat.le_refl K));have A8:=q_ (Ad.o.trans (.of_below hY));have y0:=A1.o.2.1 0 _ rfl;have y1:=A1.o.2.2;have Ao:(w:Nat)<Y:=A1.o.1;have hne:¬(w:Nat)+1=w:=by omega
  clear hY c8 v0 v1 v2 v3;go_wp2;all_goals first
   | (go_roundw
      case rel=>exact ⟨k+1,C2,q2,d3,o_,za_,q_ (Ah.o.up (((Kp.refl _ Y).setCell (.inl (.inr (.inl rfl))) _).alloc _) (Nat.le_refl K)),q_ ((A1.o.set 0 _).alloc _),q_ ((A9.o.far z3_ _).alloc _),q_ ((A8.o.setCell (.inl rfl) _).alloc _)⟩
      case measure=>exact me_)
   | (go_roundw
      case rel=>exact ⟨k+1,C,q,d2,o_,za_,q_ (Ac.o.up ((Kp.refl _ Y).alloc _) (Nat.le_refl K)),q_ (A1.o.alloc _),q_ (A9.o.alloc _),q_ (A8.o.alloc _)⟩
      case measure=>exact me_)
 have A6:¬(k:Int)<(m:Int):=by omega
 go_wp2;refine retC results135 zc_ underlying35 rfl k_ (cs:=[_]) (A4.o.set 0 _).whole rfl ?_;have hb:Below w w (wr.setCell (a_ (w+1)) (.slice C q d2)):=(HW.o.trans (A5.o.below (B:=w) o_ (fun k hk h=>o_))).setCell z5_ _;exact ur_
end Go.Proofs.YtfolidlmgfhkiaaGreat
namespace Go.Proofs.YtfolidlmgfhkiaaGreat.Dl
open Go.RowKit Go.Proofs.Tryz
theorem less_any (x:Pr) (a b:Int) (w:World):Calls prog 63 #[.agg #[i_ x.a,i_ x.b,i_ x.cnt],i_ a,i_ b] w fun e w'=>e=.returned (.bool (decide (Bef x a b)))/\Below w w w':=by
 by_cases h1:x.a<a
 ·have HB:=h_ (decide (Bef x a b)=true) (decide_eq_true (.inl h1));have g1:decide (x.a<a)=true:=by simpa using h1
  exact t6_
 have g1:decide (x.a<a)=false:=by simpa using h1
 by_cases h2:x.a=a
 ·have g2:(x.a == a)=true:=by simpa using h2
  by_cases h3:x.b<b
  ·have HB:=h_ (decide (Bef x a b)=true) (decide_eq_true (.inr ⟨h2,h3⟩));have g3:decide (x.b<b)=true:=by simpa using h3
   exact ts_
  have HB:=h_ (decide (Bef x a b)=false) (decide_eq_false (by unfold Bef;omega));have g3:decide (x.b<b)=false:=by simpa using h3
  exact ts_
 have g2:(x.a == a)=false:=by simpa using h2
 have HB:=h_ (decide (Bef x a b)=false) (decide_eq_false (by unfold Bef;omega));exact t6_
structure Out (w:World) (base p:Nat) (v:Value) (l:List Pr):Prop where
 cell:w.cell? (a_ p)=some v
 fr:w.frozen? (a_ p)=false
 own:w.ownsRow base 85 3 v l.length (l.flatMap Pr.cells)
 lt:p<base
 le:base<=w
theorem news_new (w:World) (a b c:Int):∀ ad,(some (a_ w):OA)=some ad->∀ (j:Nat) (u:Value),([i_ a,i_ b,i_ c]:VL)[j]?=some u->((w.alloc (.cells #[i_ a,i_ b,i_ c] 85)).drew).cell? (ad.add j)=some u:=by
 intro ad A0 j u hu;injection A0 with A0;subst A0;rw [Addr.add_lit,Nat.zero_add];show (w.alloc _).cell? _=_
 rw [ar_ _ _ _ _ _ rfl,List.getElem?_toArray];exact hu
theorem Out.next {w w1:World} {base p:Nat} {v:Value} {l:List Pr} (h:Out w base p v l) (x:Pr) {A':OA} {c':Nat}
  (ho:w1.ownsRow base 85 3 (.slice A' (l.length+1) c') (l.length+1) (l.flatMap Pr.cells ++ x.cells)) (hg:((w.alloc (.cells #[i_ x.a,i_ x.b,i_ x.cnt] 85)).drew).grownBy w1 v.ownBlock) :
  Out (w1.setCell (a_ p) (.slice A' (l.length+1) c')) base p (.slice A' (l.length+1) c') (l ++ [x])/\w1.cell? (a_ p)=some v/\w1.frozen? (a_ p)=false/\Below base w w1:=by
 have A0:((w.alloc (.cells #[i_ x.a,i_ x.b,i_ x.cnt] 85)).drew).heap.size=w+1:=by show (w.alloc _).heap.size=_;simp
 have A1:p<w:=lt_ h.lt h.le;have hne:some p≠v.ownBlock:=fun e=>by have:=h.own.lt p e.symm;have:=h.lt;omega
 have c1:w1.cell? (a_ p)=some v:=((gcell hg).1 p 0 z9_ hne).trans ((ak_ w _ p 0 A1).trans h.cell);have f1:w1.frozen? (a_ p)=false:=((gcell hg).2 p 0 z9_ hne).trans ((dv_ w _ p 0 A1).trans h.fr);have hz:=hg.size;rw [A0] at hz;refine ⟨⟨World.cell?_setCell_same _ _ _ c1,by rw [World.frozen?_setCell];exact f1,?_,h.lt,by have:=h.le;simp;omega⟩,c1,f1,?_⟩
 ·have e1:(l ++ [x]).length=l.length+1:=by simp
  have e2:(l ++ [x]).flatMap Pr.cells=l.flatMap Pr.cells ++ x.cells:=by simp
  rw [e1,e2];exact ba_ ho _ (fun e=>by have:=ho.lt p e;have:=h.lt;omega)
 exact (((Below.refl base w).alloc h.le _).drew).grown hg (by rw [A0];have:=h.le;omega) (fun k hk=>(h.own.lt k hk).1)
theorem Out.below {w w':World} {base p:Nat} {v:Value} {l:List Pr} (h:Out w base p v l) (hb:Below w w w'):Out w' base p v l :=
 have A0:p<w:=lt_ h.lt h.le
 ⟨(belc hb A0).trans h.cell,(belf hb A0).trans h.fr,own_below h.own hb,h.lt,Nat.le_trans h.le hb.size⟩
theorem Out.more {w W w1:World} {base p:Nat} {v:Value} {l:List Pr} (h:Out w base p v l) (hW:Below w w W) (hg:W.grownBy w1 v.ownBlock) :
  w1.cell? (a_ p)=some v/\w1.frozen? (a_ p)=false/\Below base w w1:=by
 have A0:p<w:=lt_ h.lt h.le;have hz:=hW.size;have hne:some p≠v.ownBlock:=fun e=>by have:=h.own.lt p e.symm;have:=h.lt;omega
 exact ⟨((gcell hg).1 p 0 o_ hne).trans ((belc hW A0).trans h.cell),((gcell hg).2 p 0 o_ hne).trans ((belf hW A0).trans h.fr),
  (hW.mono h.le).grown hg (by have:=h.le;omega) (fun k hk=>(h.own.lt k hk).1)⟩
end Go.Proofs.YtfolidlmgfhkiaaGreat.Dl
namespace Go.Proofs.YtfolidlmgfhkiaaGreat.Dl
open Go.RowKit Go.Proofs.Tryz
attribute [local go_sem] Oper.semAt_some
structure Tk where
 start:Int
 status:Int
 next:Int
 cells:VL
 size:cells.length=48
 c0:cells[0]?=some (i_ start)
 c42:cells[42]?=some (i_ status)
 c43:cells[43]?=some (i_ next)
 one:cells.all (·.oneCell')=true
def TkAt (w:World) (b o:Nat) (t:Tk):Prop:=∀ (j:Nat) (v:Value),t.cells[j]?=some v->w.cell? ⟨b,o+j,none⟩=some v
theorem tk_agg:(prog.info? 65).map (·.size)=some 48:=by kernel_rfl
def zeroCells:VL:=[i_ 0,i_ 0,.bool false,i_ 0] ++ (List.replicate 16 [Value.bool false,i_ 0]).flatten ++ List.replicate 6 (.slice none 0 0) ++ [i_ 0,i_ 0,.bool false,.bool false,i_ 0,i_ 0]
theorem wpListIn_load_tk {F:Fence} {n:Nat} {ops:Array Oper} {rest:List Oper} {op:Oper} {a:Act} {w:World} {Q:Exit->Act->World->Prop} (hgd:op.guard=none) (x:Operand) (ho:op.op=.load 65 x)
  {b o:Nat} {t:Tk} (hx:a.eval x=.pointer (some (f_ b o))) (hc:TkAt w b o t) (h:wpListIn F n prog ops Q rest (a.put op.dst (.agg t.cells.toArray)) w):wpListIn F n prog ops Q (op :: rest) a w:=by
 refine wpListIn_plain hgd fun K hK=>?_
 have h1:=run_loadAt_mid (P:=prog) w b o _ t.cells _ (fun j v hv=>hc j v hv) underlying65 rfl (by rw [t.size];exact tk_agg);unfold Oper.wpIn;refine ⟨?_,?_⟩
 ·simp [Oper.about,ho]
 rw [Oper.semAt_plain F _ _ (by rw [ho];intro c A0;cases A0)];unfold execOp;simp only [ho,hx,Sem.run_bind,h1,Result.andThen_ok,Sem.run_pure];exact hK _ _ h
theorem wpListIn_store_tk {F:Fence} {n:Nat} {ops:Array Oper} {rest:List Oper} {op:Oper} {a:Act} {w:World} {Q:Exit->Act->World->Prop} (hgd:op.guard=none) (x y:Operand) (ho:op.op=.store 65 x y)
  {c:Array Value} (t:Tk) (hc:c.size=48) (hx:a.eval x=.pointer (some (a_ w))) (hy:a.eval y=.agg t.cells.toArray)
  (h:wpListIn F n prog ops Q rest (a.put op.dst undef) (w.alloc (.cells t.cells.toArray 65))):wpListIn F n prog ops Q (op :: rest) a (w.alloc (.cells c 65)):=by
 refine wpListIn_plain hgd fun K hK=>?_
 have hs:t.cells.toArray.size=48:=by simp [t.size]
 have h1:=run_storeAt_new (P:=prog) w _ c t.cells.toArray (by rw [hs];exact tk_agg) (by rw [hs];exact hc) (by simpa using t.one);unfold Oper.wpIn;refine ⟨?_,?_⟩
 ·simp [Oper.about,ho]
 rw [Oper.semAt_plain F _ _ (by rw [ho];intro c A0;cases A0)];unfold execOp;simp only [ho,hx,hy,Sem.run_bind,h1,Result.andThen_ok,Sem.run_pure];exact hK _ _ h
def rvTo (l:List Tk):Nat->List (Nat × Tk)
 | 0=>[]
 | m+1=>match l[m]? with
  | some t=>(m,t) :: rvTo l m
  | none=>rvTo l m
def tkv (x:Nat × Tk):Array Value:=#[i_ x.1,.agg x.2.cells.toArray]
theorem back_in (m l n₀ Bn:Nat) (hm:1<=m) (A:OA) (k c:Nat) (ts:List Tk) (J Jx:List (Nat × Tk)->World->Prop) (hk:k<=1000000) (hB:Bn<n₀)
  (hY:∀ pre y W1,J pre W1->pre.length<k->YieldAt Fence.wide (m - 1) prog l (tkv y) W1 fun e W' =>
   (e=.returned (.bool true)/\J (pre ++ [y]) W'/\Below n₀ W1 W')\/(e=.returned (.bool false)/\Jx (pre ++ [y]) W'))
  (W:World) (hc:W.cell? (a_ Bn)=some (.slice A k c)) (hs:Sl W n₀ 48 Tk.cells A k ts) (h0:J [] W) :
  CallsIn Fence.wide m prog 107 #[.func (.yield l) #[] #[],.pointer (some (a_ Bn))] W fun e W'=>(∃ v,e=.returned v) ∧
   ((∃ ys,ys=rvTo ts k/\J ys W')\/(∃ pre,pre <+: rvTo ts k/\Jx pre W')):=by
 have HY:=q_ hY;have HC:=q_ hc;have HL:=q_ hs.len;have Ag:=hc;clear hY;have Af:=HC.o;refine callsIn_of_wp func107 rfl trivial ?_ rfl;simp only [ntmps107,List.size_toArray,List.length_cons,List.length_nil,Nat.reduceAdd,Nat.reduceSub,Array.replicate_succ,Array.replicate_zero,List.push_toArray,List.append_toArray,List.nil_append,List.cons_append]
 gi_wp2
 gi_loopw [3] (fun i wr=>∃ (pre:List (Nat × Tk)) (j:Nat),i=i_ ((j:Int) - 1)/\j<=k/\pre.length+j=k/\Hid (rvTo ts k=pre ++ rvTo ts j)/\J pre wr/\Below n₀ W wr) (fun i _=>(intOf i+1).toNat)
 case atStart=>exact ⟨[],k,by first | rfl | (congr 1;omega),l_,zk_,q_ t_,h0,b_⟩
 obtain ⟨pre,j,rfl,hj,Ak,A6,A0,hb⟩:=hrel;have Ah:=(belc hb hB).trans HC.o;cases j with
 | zero =>
  gi_wp2
  go_end0;exact ⟨⟨_,rfl⟩,.inl ⟨pre,by rw [A6.o];simp [rvTo],A0⟩⟩
 | succ j =>
  have A7:=hs.below hb;obtain ⟨ab,ao,rfl,Aj,A5⟩:=A7.at_ o_;obtain ⟨t,ht⟩:∃ t,ts[j]?=some t:=⟨_,ge_ yp_⟩;have Aa:=h_ (TkAt wr ab (ao+j*48) t) (fun i v hv=>by rw [Nat.add_assoc];exact A5 j t ht i v hv);have A3:=h_ (rvTo ts k=(pre ++ [(j,t)]) ++ rvTo ts j) (by rw [A6.o];simp [rvTo,ht]);obtain ⟨fn,Ae,A1,Ab,hy,hR⟩:=HY.o pre (j,t) wr A0 o_;unfold tkv at hy;have e1:((j+1:Nat):Int) - 1=(j:Int):=by omega
  rw [e1];have Ai:(j:Int)<(k:Int):=by omega
  clear A5 ht A7
  gi_wp2_with (with_reducible refine wpListIn_load_tk rfl (.tmp 15) rfl v_ Aa.o ?_)
  refine hR.mono ?_;rintro e W3 (⟨rfl,A4,Ad⟩ | ⟨rfl,A2⟩)
  ·have Ac:=hb.trans Ad;have A8:=q_ Ac;have A9:=q_ A4;clear hy hR A0 hb A4
   gi_wp2
   go_roundw
   case rel=>exact ⟨pre ++ [(j,t)],j,by first | rfl | go_num,o_,zm_,A3,A9.o,A8.o⟩
   case measure=>simp [intOf]
  clear hy hR A0 hb
  gi_wp2
  refine bodyPost_ret (results_none rfl _ _ _) rfl ?_;exact ⟨⟨_,rfl⟩,.inr ⟨pre ++ [(j,t)],⟨rvTo ts j,A3.o.symm⟩,A2⟩⟩
theorem back_stops (m n₀ Bn:Nat) (hm:1<=m) (A:OA) (k c:Nat) (ts:List Tk) (hk:k<=1000000) (hB:Bn<n₀) (w:World) (hn:n₀<=w) (hc:w.cell? (a_ Bn)=some (.slice A k c)) (hs:Sl w n₀ 48 Tk.cells A k ts) :
  SeqStopsK Fence.wide m prog 107 #[.pointer (some (a_ Bn))] tkv (Below n₀) (fun ys=>ys=rvTo ts k) (fun pre=>pre <+: rvTo ts k) k w:=fun l J Jx W hW _ _ hY h0 =>
 back_in m l n₀ Bn hm A k c ts J Jx hk hB hY W ((belc hW o_).trans hc) (hs.below (hW.mono hn)) h0
end Go.Proofs.YtfolidlmgfhkiaaGreat.Dl
namespace Go.Proofs.YtfolidlmgfhkiaaGreat
open Go.RowKit Go.Proofs.Tryz
section
variable {X:XE} {w:World}
theorem bi_ {d d':Nat} {v:Value} (hd:d<=d') (h:(kEx X d).p w v):(kEx X d').p w v:=by
 obtain ⟨kd,n,s,op,A,m,c,e,h1,h2⟩:=h;exact ⟨kd,n,s,op,A,m,c,e,exprT_le hd h1 h2,h2⟩
theorem dl_ {d d':Nat} {v:Value} (hd:d<=d') (h:(kSt X d).p w v):(kSt X d').p w v:=by
 obtain ⟨kd,s,f,n,op,A,m,c,B,m1,c1,C,m2,c2,e,h1,h2⟩:=h;exact ⟨kd,s,f,n,op,A,m,c,B,m1,c1,C,m2,c2,e,stmtT_le hd h1 h2,h2⟩
theorem cu_ {n:Nat} {v:Value} (h:(kNat X n).p w v):(kInt X).p w v:=by
 obtain ⟨r,_,e⟩:=h;exact ⟨_,e⟩
end
section
variable {Q:Exit->Act->World->Prop} {X:XE} {Inv:World->Prop} {o:Oper} {a:Act} {w:World} {d b lp:Nat}
theorem rk_bin {x y z:Operand} {e:Nat} (hC:IC d b lp X Inv) (ho:o.op=.call { callee:=.value (.func 117),args:=#[x,y,z],argTypes:=#[3,209,209] }) (hx:(kInt X).p w (a.eval x)) (hy:(kEx X e).p w (a.eval y)) (hz:(kEx X e).p w (a.eval z)) (hI:Inv w):RnK prog Q X Inv (kEx X (e+1)) o a w:=by
 obtain ⟨q,hx⟩:=hx;obtain ⟨kd,n,s,op,A,m,c,hy,h1⟩:=hy;obtain ⟨A0,n',s',A1,A',m',c',hz,h2⟩:=hz;have hf:a.eval (.func 117)=.func (.func 117) #[] #[]:=rfl;generalize hr:a.eval=r at hx hy hz hf;refine cm_ (f:=117) (args:=#[i_ q,.agg #[i_ kd,i_ n,.string s,i_ op,.slice A m c],.agg #[i_ A0,i_ n',.string s',i_ A1,.slice A' m' c']]) xp_ ((bin_m X e q kd n s op A m c A0 n' s' A1 A' m' c' w h1 h2 (hC.lt w hI)).mono ?_);rintro e w' ⟨⟨kd,n,s,op,A,m,c,rfl,h⟩,hb⟩;exact ⟨_,rfl,.of_below hb,hC.ex w w' hI (.of_below hb),hC.below hI hb,_,_,_,_,_,_,_,rfl,h.o⟩
theorem dk_ {x y:Operand} (hC:IC d b lp X Inv) (ho:o.op=.call { callee:=.value (.func 116),args:=#[x,y],argTypes:=#[9,209] }) (hx:(kStr X).p w (a.eval x)) (hy:(kEx X dE).p w (a.eval y)) (hI:Inv w):RnK prog Q X Inv (kSt X 0) o a w:=by
 obtain ⟨t,hx,ht⟩:=hx;obtain ⟨kd,n,s,op,A,m,c,hy,h1⟩:=hy;have hf:a.eval (.func 116)=.func (.func 116) #[] #[]:=rfl;generalize hr:a.eval=r at hx hy hf;refine cm_ (f:=116) (args:=#[.string t,.agg #[i_ kd,i_ n,.string s,i_ op,.slice A m c]]) yc_ ((set_m X t kd n s op A m c w ht h1 (hC.lt w hI)).mono ?_);rintro e w' ⟨⟨kd,s,f,n,op,A,m,c,B,m1,c1,C,m2,c2,rfl,h⟩,hb⟩;exact ⟨_,rfl,.of_below hb,hC.ex w w' hI (.of_below hb),hC.below hI hb,_,_,_,_,_,_,_,_,_,_,_,_,_,_,rfl,h.o⟩
theorem ax_ (w:World) (cs:Array Value) (t:TypeId):Below w w (w.alloc (.cells cs t)):=(b_).alloc (l_) _
theorem dt_ {x:Operand} {e:Nat} (hC:IC d b lp X Inv) (ho:o.op=.buildSlice 207 1 #[(0,x)]) (hx:(kEx X e).p w (a.eval x)) (hI:Inv w):RnK prog Q X Inv (kExs X e 1) o a w:=by
 obtain ⟨kd,n,s,op,A,m,c,hx,h1⟩:=hx;generalize hr:a.eval=r at hx;refine rk_to (v:=.slice (some (a_ w)) 1 1) (w':=w.alloc (.cells (exL kd n s op A m c).toArray 209)) xz_ (.of_below (ax_ w _ _)) (hC.ex w _ hI (.of_below (ax_ w _ _))) ?_ (hC.below hI (ax_ w _ _));exact ⟨_,_,rfl,SlP.one (Bx.new w _ _) (fun h=>by have:=hC.lt w hI _ h;omega) d_ (h1.1.up (.of_below (ax_ w _ _)) (l_)) h1.2⟩
theorem rk_bse2 {x y:Operand} {e:Nat} (hC:IC d b lp X Inv) (ho:o.op=.buildSlice 207 2 #[(0,x),(1,y)]) (hx:(kEx X e).p w (a.eval x)) (hy:(kEx X e).p w (a.eval y)) (hI:Inv w):RnK prog Q X Inv (kExs X e 2) o a w:=by
 obtain ⟨kd,n,s,op,A,m,c,hx,h1⟩:=hx;obtain ⟨A0,n',s',A1,A',m',c',hy,h2⟩:=hy;generalize hr:a.eval=r at hx hy;refine rk_to (v:=.slice (some (a_ w)) 2 2) (w':=w.alloc (.cells (exL kd n s op A m c ++ exL A0 n' s' A1 A' m' c').toArray 209)) (by rw [hr];simp [execOp,ho,hx,hy,go_sem];rfl) (.of_below (ax_ w _ _)) (hC.ex w _ hI (.of_below (ax_ w _ _))) ?_ (hC.below hI (ax_ w _ _));exact ⟨_,_,rfl,SlP.two (Bx.new w _ _) (fun h=>by have:=hC.lt w hI _ h;omega) d_ (h1.1.up (.of_below (ax_ w _ _)) (l_)) h1.2 (h2.1.up (.of_below (ax_ w _ _)) (l_)) h2.2⟩
theorem rk_bst1 {s0:ByteArray} (hC:IC d b lp X Inv) (ho:o.op=.buildSlice 188 1 #[(0,.const (.string s0))]) (h0:s0.size<=100) (hI:Inv w):RnK prog Q X Inv (bu_ X 1) o a w:=by
 have e0:a.eval (.const (.string s0))=.string s0:=rfl;refine rk_to (v:=.slice (some (a_ w)) 1 1) (w':=w.alloc (.cells #[.string s0] 9)) (by generalize a.eval=r at e0;simp [execOp,ho,e0,go_sem]) (.of_below (ax_ w _ _)) (hC.ex w _ hI (.of_below (ax_ w _ _))) ?_ (hC.below hI (ax_ w _ _));refine ⟨w,rfl,zk_,fun h=>by have:=hC.lt w hI _ h;omega,fun i hi=>?_⟩
 match i,hi with
 | 0,_=>exact ⟨_,zg_,h0⟩
theorem rk_bst2 {s0 s1:ByteArray} (hC:IC d b lp X Inv) (ho:o.op=.buildSlice 188 2 #[(0,.const (.string s0)),(1,.const (.string s1))]) (h0:s0.size<=100) (h1:s1.size<=100) (hI:Inv w):RnK prog Q X Inv (bu_ X 2) o a w:=by
 have e0:a.eval (.const (.string s0))=.string s0:=rfl;have e1:a.eval (.const (.string s1))=.string s1:=rfl;refine rk_to (v:=.slice (some (a_ w)) 2 2) (w':=w.alloc (.cells #[.string s0,.string s1] 9)) wy_ (.of_below (ax_ w _ _)) (hC.ex w _ hI (.of_below (ax_ w _ _))) ?_ (hC.below hI (ax_ w _ _));refine ⟨w,rfl,zk_,fun h=>by have:=hC.lt w hI _ h;omega,fun i hi=>?_⟩
 match i,hi with
 | 0,_=>exact ⟨_,zg_,h0⟩
 | 1,_=>exact ⟨_,zg_,h1⟩
theorem rk_bst3 {s0 s1 s2:ByteArray} (hC:IC d b lp X Inv) (ho:o.op=.buildSlice 188 3 #[(0,.const (.string s0)),(1,.const (.string s1)),(2,.const (.string s2))]) (h0:s0.size<=100) (h1:s1.size<=100) (h2:s2.size<=100) (hI:Inv w):RnK prog Q X Inv (bu_ X 3) o a w:=by
 have e0:a.eval (.const (.string s0))=.string s0:=rfl;have e1:a.eval (.const (.string s1))=.string s1:=rfl;have e2:a.eval (.const (.string s2))=.string s2:=rfl;refine rk_to (v:=.slice (some (a_ w)) 3 3) (w':=w.alloc (.cells #[.string s0,.string s1,.string s2] 9)) (by generalize a.eval=r at e0 e1 e2;simp [execOp,ho,e0,e1,e2,go_sem]) (.of_below (ax_ w _ _)) (hC.ex w _ hI (.of_below (ax_ w _ _))) ?_ (hC.below hI (ax_ w _ _));refine ⟨w,rfl,zk_,fun h=>by have:=hC.lt w hI _ h;omega,fun i hi=>?_⟩
 match i,hi with
 | 0,_=>exact ⟨_,zg_,h0⟩
 | 1,_=>exact ⟨_,zg_,h1⟩
 | 2,_=>exact ⟨_,zg_,h2⟩
theorem rk_bsi2 {s0 s1:Int} (hC:IC d b lp X Inv) (ho:o.op=.buildSlice 30 2 #[(0,.const (i_ s0)),(1,.const (i_ s1))]) (h0:s0≠3/\s0≠5/\s0≠6) (h1:s1≠3/\s1≠5/\s1≠6) (hI:Inv w):RnK prog Q X Inv (kInts X 2) o a w:=by
 have e0:a.eval (.const (i_ s0))=i_ s0:=rfl;have e1:a.eval (.const (i_ s1))=i_ s1:=rfl;refine rk_to (v:=.slice (some (a_ w)) 2 2) (w':=w.alloc (.cells #[i_ s0,i_ s1] 3)) wy_ (.of_below (ax_ w _ _)) (hC.ex w _ hI (.of_below (ax_ w _ _))) ?_ (hC.below hI (ax_ w _ _));refine ⟨w,rfl,zk_,fun h=>by have:=hC.lt w hI _ h;omega,fun i hi=>?_⟩
 match i,hi with
 | 0,_=>exact ⟨_,zg_,h0⟩
 | 1,_=>exact ⟨_,zg_,h1⟩
theorem rk_bsi4' {s0 s1 s2 s3:Int} (hC:IC d b lp X Inv) (ho:o.op=.buildSlice 30 4 #[(0,.const (i_ s0)),(1,.const (i_ s1)),(2,.const (i_ s2)),(3,.const (i_ s3))]) (hI:Inv w):RnK prog Q X Inv (kInts' X 4) o a w:=by
 have e0:a.eval (.const (i_ s0))=i_ s0:=rfl;have e1:a.eval (.const (i_ s1))=i_ s1:=rfl;have e2:a.eval (.const (i_ s2))=i_ s2:=rfl;have e3:a.eval (.const (i_ s3))=i_ s3:=rfl;refine rk_to (v:=.slice (some (a_ w)) 4 4) (w':=w.alloc (.cells #[i_ s0,i_ s1,i_ s2,i_ s3] 3)) (by generalize a.eval=r at e0 e1 e2 e3;simp [execOp,ho,e0,e1,e2,e3,go_sem]) (.of_below (ax_ w _ _)) (hC.ex w _ hI (.of_below (ax_ w _ _))) ?_ (hC.below hI (ax_ w _ _));refine ⟨w,rfl,zk_,fun h=>by have:=hC.lt w hI _ h;omega,fun i hi=>?_⟩
 match i,hi with
 | 0,_=>exact ⟨_,zg_⟩
 | 1,_=>exact ⟨_,zg_⟩
 | 2,_=>exact ⟨_,zg_⟩
 | 3,_=>exact ⟨_,zg_⟩
theorem rk_be1 {x:Operand} {kd:Int} (ho:o.op=.build 209 #[(0,.const (i_ kd)),(1,x)]) (hk:kd≠4/\kd≠5) (hx:(kInt X).p w (a.eval x)) (hI:Inv w):RnK prog Q X Inv (kEx X 0) o a w:=by
 obtain ⟨n,hx⟩:=hx;have e0:a.eval (.const (i_ kd))=i_ kd:=rfl;generalize hr:a.eval=r at hx e0;exact bs_ (v:=.agg #[i_ kd,i_ n,.string ⟨#[]⟩,i_ 0,.slice none 0 0]) yv_ ⟨_,_,_,_,_,_,_,rfl,vts_ex0 _ _ _ _,pE_ex (fun h=>absurd h hk.1) (fun h=>absurd h hk.2) d_⟩ hI
theorem rk_be3 {x y:Operand} {e:Nat} (ho:o.op=.build 209 #[(0,.const (i_ 4)),(1,x),(4,y)]) (hx:(kInt X).p w (a.eval x)) (hy:(kExs X e 1).p w (a.eval y)) (hI:Inv w):RnK prog Q X Inv (kEx X (e+1)) o a w:=by
 obtain ⟨n,hx⟩:=hx;obtain ⟨A,c,hy,hs⟩:=hy;have e0:a.eval (.const (i_ 4))=i_ 4:=rfl;generalize hr:a.eval=r at hx hy e0;exact bs_ (v:=.agg #[i_ 4,i_ n,.string ⟨#[]⟩,i_ 0,.slice A 1 c]) xv_ ⟨_,_,_,_,_,_,_,rfl,vts_ex hs,pE_ex (fun _=>l_) x_ d_⟩ hI
theorem rk_bs_0145 {x0 x1 x4 x5:Operand} {kd:Int} {m:Nat} (ho:o.op=.build 212 #[(0,x0),(1,x1),(4,x4),(5,x5)]) (h0:a.eval x0=i_ kd) (h1:(kStr X).p w (a.eval x1)) (h4:(kInt X).p w (a.eval x4)) (h5:(kExs X dE m).p w (a.eval x5)) (g5:kd=5->2<=m) (g6:kd=6->1<=m) (g3:kd=3->(⟨#[]⟩:ByteArray)=nameF\/(⟨#[]⟩:ByteArray)=nameG) (hI:Inv w):RnK prog Q X Inv (kSt X 0) o a w:=by
 obtain ⟨s,h1,hs⟩:=h1;obtain ⟨op,h4⟩:=h4;obtain ⟨A,c,h5,v5⟩:=h5;generalize hr:a.eval=r at h0 h1 h4 h5;exact bs_ (v:=.agg #[i_ kd,.string s,.string ⟨#[]⟩,i_ 0,i_ op,.slice A m c,.slice none 0 0,.slice none 0 0]) (by rw [hr];simp [execOp,ho,h0,h1,h4,h5,go_sem]) ⟨_,_,_,_,_,_,_,_,_,_,_,_,_,_,rfl,ec_ v5,pS_st g5 g6 g3 hs d_⟩ hI
theorem rk_bs_035 {x0 x3 x5:Operand} {kd:Int} {m:Nat} (ho:o.op=.build 212 #[(0,x0),(3,x3),(5,x5)]) (h0:a.eval x0=i_ kd) (h3:(kInt X).p w (a.eval x3)) (h5:(kExs X dE m).p w (a.eval x5)) (g5:kd=5->2<=m) (g6:kd=6->1<=m) (g3:kd=3->(⟨#[]⟩:ByteArray)=nameF\/(⟨#[]⟩:ByteArray)=nameG) (hI:Inv w):RnK prog Q X Inv (kSt X 0) o a w:=by
 obtain ⟨n,h3⟩:=h3;obtain ⟨A,c,h5,v5⟩:=h5;generalize hr:a.eval=r at h0 h3 h5;exact bs_ (v:=.agg #[i_ kd,.string ⟨#[]⟩,.string ⟨#[]⟩,i_ n,i_ 0,.slice A m c,.slice none 0 0,.slice none 0 0]) (by rw [hr];simp [execOp,ho,h0,h3,h5,go_sem]) ⟨_,_,_,_,_,_,_,_,_,_,_,_,_,_,rfl,ec_ v5,pS_st g5 g6 g3 d_ d_⟩ hI
theorem rk_bs_05 {x0 x5:Operand} {kd:Int} {m:Nat} (ho:o.op=.build 212 #[(0,x0),(5,x5)]) (h0:a.eval x0=i_ kd) (h5:(kExs X dE m).p w (a.eval x5)) (g5:kd=5->2<=m) (g6:kd=6->1<=m) (g3:kd=3->(⟨#[]⟩:ByteArray)=nameF\/(⟨#[]⟩:ByteArray)=nameG) (hI:Inv w):RnK prog Q X Inv (kSt X 0) o a w:=by
 obtain ⟨A,c,h5,v5⟩:=h5;generalize hr:a.eval=r at h0 h5;exact bs_ (v:=.agg #[i_ kd,.string ⟨#[]⟩,.string ⟨#[]⟩,i_ 0,i_ 0,.slice A m c,.slice none 0 0,.slice none 0 0]) (by rw [hr];simp [execOp,ho,h0,h5,go_sem]) ⟨_,_,_,_,_,_,_,_,_,_,_,_,_,_,rfl,ec_ v5,pS_st g5 g6 g3 d_ d_⟩ hI
theorem rk_bs_015 {x0 x1 x5:Operand} {kd:Int} {m:Nat} (ho:o.op=.build 212 #[(0,x0),(1,x1),(5,x5)]) (h0:a.eval x0=i_ kd) (h1:(kStr X).p w (a.eval x1)) (h5:(kExs X dE m).p w (a.eval x5)) (g5:kd=5->2<=m) (g6:kd=6->1<=m) (g3:kd=3->(⟨#[]⟩:ByteArray)=nameF\/(⟨#[]⟩:ByteArray)=nameG) (hI:Inv w):RnK prog Q X Inv (kSt X 0) o a w:=by
 obtain ⟨s,h1,hs⟩:=h1;obtain ⟨A,c,h5,v5⟩:=h5;generalize hr:a.eval=r at h0 h1 h5;exact bs_ (v:=.agg #[i_ kd,.string s,.string ⟨#[]⟩,i_ 0,i_ 0,.slice A m c,.slice none 0 0,.slice none 0 0]) (by rw [hr];simp [execOp,ho,h0,h1,h5,go_sem]) ⟨_,_,_,_,_,_,_,_,_,_,_,_,_,_,rfl,ec_ v5,pS_st g5 g6 g3 hs d_⟩ hI
theorem rk_bs_0125 {x0 x1 x2 x5:Operand} {kd:Int} {f:ByteArray} {m:Nat} (ho:o.op=.build 212 #[(0,x0),(1,x1),(2,x2),(5,x5)]) (h0:a.eval x0=i_ kd) (h1:(kStr X).p w (a.eval x1)) (h2:a.eval x2=.string f) (hf:f.size<=100) (h5:(kExs X dE m).p w (a.eval x5)) (g5:kd=5->2<=m) (g6:kd=6->1<=m) (g3:kd=3->f=nameF\/f=nameG) (hI:Inv w):RnK prog Q X Inv (kSt X 0) o a w:=by
 obtain ⟨s,h1,hs⟩:=h1;obtain ⟨A,c,h5,v5⟩:=h5;generalize hr:a.eval=r at h0 h1 h2 h5;exact bs_ (v:=.agg #[i_ kd,.string s,.string f,i_ 0,i_ 0,.slice A m c,.slice none 0 0,.slice none 0 0]) (by rw [hr];simp [execOp,ho,h0,h1,h2,h5,go_sem]) ⟨_,_,_,_,_,_,_,_,_,_,_,_,_,_,rfl,ec_ v5,pS_st g5 g6 g3 hs hf⟩ hI
theorem rk_bs_0567 {x0 x5 x6 x7:Operand} {kd:Int} {m:Nat} {e q6 q7:Nat} (ho:o.op=.build 212 #[(0,x0),(5,x5),(6,x6),(7,x7)]) (h0:a.eval x0=i_ kd) (h5:(kExs X dE m).p w (a.eval x5)) (h6:(kSts X e q6).p w (a.eval x6)) (h7:(kSts X e q7).p w (a.eval x7)) (g5:kd=5->2<=m) (g6:kd=6->1<=m) (g3:kd=3->(⟨#[]⟩:ByteArray)=nameF\/(⟨#[]⟩:ByteArray)=nameG) (hI:Inv w):RnK prog Q X Inv (kSt X (e+1)) o a w:=by
 obtain ⟨A,c,h5,v5⟩:=h5;obtain ⟨B,m1,c1,h6,_,v6⟩:=h6;obtain ⟨C,m2,c2,h7,_,v7⟩:=h7;generalize hr:a.eval=r at h0 h5 h6 h7;exact bs_ (v:=.agg #[i_ kd,.string ⟨#[]⟩,.string ⟨#[]⟩,i_ 0,i_ 0,.slice A m c,.slice B m1 c1,.slice C m2 c2]) (by rw [hr];simp [execOp,ho,h0,h5,h6,h7,go_sem]) ⟨_,_,_,_,_,_,_,_,_,_,_,_,_,_,rfl,vts_st v5 v6 v7,pS_st g5 g6 g3 d_ d_⟩ hI
theorem rk_bs_0167 {x0 x1 x6 x7:Operand} {kd:Int} {e q6 q7:Nat} (ho:o.op=.build 212 #[(0,x0),(1,x1),(6,x6),(7,x7)]) (h0:a.eval x0=i_ kd) (h1:(kStr X).p w (a.eval x1)) (h6:(kSts X e q6).p w (a.eval x6)) (h7:(kSts X e q7).p w (a.eval x7)) (g5:kd=5->2<=0) (g6:kd=6->1<=0) (g3:kd=3->(⟨#[]⟩:ByteArray)=nameF\/(⟨#[]⟩:ByteArray)=nameG) (hI:Inv w):RnK prog Q X Inv (kSt X (e+1)) o a w:=by
 obtain ⟨s,h1,hs⟩:=h1;obtain ⟨B,m1,c1,h6,_,v6⟩:=h6;obtain ⟨C,m2,c2,h7,_,v7⟩:=h7;generalize hr:a.eval=r at h0 h1 h6 h7;exact bs_ (v:=.agg #[i_ kd,.string s,.string ⟨#[]⟩,i_ 0,i_ 0,.slice none 0 0,.slice B m1 c1,.slice C m2 c2]) (by rw [hr];simp [execOp,ho,h0,h1,h6,h7,go_sem]) ⟨_,_,_,_,_,_,_,_,_,_,_,_,_,_,rfl,vts_st (SlP.nil _ _ _ _ _) v6 v7,pS_st g5 g6 g3 hs d_⟩ hI
end
structure InvR (d b lp:Nat) (X Z:NP) (w0:World) (rb:Nat) (ts:List CT) (pp:VL->Prop) (w:World):Prop where
 ok:Mk d b lp w
 kp:Kp Z w0 w
 lt:∀ k,X k->k<w
 bx:∃ cs,Bx w rb cs/\VTs w X 20 ts cs/\pp cs
section
variable {Q:Exit->Act->World->Prop} {X Z:NP} {o:Oper} {a:Act} {w w0:World} {d b lp rb:Nat} {ts:List CT} {pp:VL->Prop}
theorem InvR.ic {E:World->Prop} (he:∀ w w':World,Kp (Zm d b) w w'->E w->E w') (hz:∀ k,Zm d b k->X k) (hZ:∀ k,Zm d b k->Z k) (hr:¬Zm d b rb):IC d b lp ⟨X,E⟩ (InvR d b lp X Z w0 rb ts pp) :=
 ⟨fun _ h=>h.ok,hz,fun _ h=>h.lt,fun w w' h hm hk=>⟨hm,h.kp.trans (hk.mono (fun k _ hk=>hZ k hk)),fun k A0=>lt_ (h.lt k A0) hk.size,by
  obtain ⟨cs,h1,h2,h3⟩:=h.bx
  exact ⟨cs,h1.kp hk hr,h2.up (hk.mono (fun k _ hk=>hz k hk)) (l_),h3⟩⟩,fun w w' _ hk h=>he w w' hk h⟩
theorem Mk.sets {w:World} (h:Mk d b lp w) (hr:b<rb) (vs:VL):Mk d b lp (w.setCells rb 0 vs):=by
 have hk:Kp (fun k=>k=rb) w (w.setCells rb 0 vs):=ai_ _ _ _ (Kp.refl _ _) (.inl rfl);obtain ⟨l,h1⟩:=h.c1;obtain ⟨f,h3⟩:=h.c3;have hd:=h.ne;have hc:∀ q j,q<=b->(w.setCells rb 0 vs).cell? (f_ q j)=w.cell? (f_ q j):=fun q j hq=>hk.cell (by have:=h.lt;omega) o_
 exact v3_
theorem InvR.put {w:World} (h:InvR d b lp X Z w0 rb ts pp w) (hr:b<rb) (hX:X rb) (hZ:Z rb) {vs:VL} (hv:VTs w X 20 ts vs) (hp:pp vs):InvR d b lp X Z w0 rb ts pp (w.setCells rb 0 vs)/\Kp X w (w.setCells rb 0 vs):=by
 have hk:Kp X w (w.setCells rb 0 vs):=ai_ _ _ _ (Kp.refl _ _) (.inl hX);obtain ⟨cs,h1,h2,h3⟩:=h.bx;exact ⟨⟨h.ok.sets hr vs,ai_ _ _ _ h.kp (.inl hZ),fun k A0=>lt_ (h.lt k A0) hk.size,vs,h1.all vs (by rw [hv.1,h2.1]),hv.up hk (l_),hp⟩,hk⟩
theorem rk_store {E:World->Prop} (he:∀ vs:VL,E w->E (w.setCells rb 0 vs)) {x y:Operand} {T:TypeId} {vs:VL} (hr:b<rb) (hX:X rb) (hZ:Z rb) (ho:o.op=.store T x y) (hx:a.eval x=.pointer (some (a_ rb))) (hy:a.eval y=.agg vs.toArray) (hi:(prog.info? T).map (·.size)=some ts.length) (hv:VTs w X 20 ts vs) (hp:pp vs) (hI:InvR d b lp X Z w0 rb ts pp w):RnK prog Q ⟨X,E⟩ (InvR d b lp X Z w0 rb ts pp) (kAny ⟨X,E⟩) o a w:=fun K hK=>by
 obtain ⟨h1,h2⟩:=hI.put hr hX hZ hv hp;obtain ⟨cs,g1,g2,g3⟩:=hI.bx;refine wp_store_mid T x y ho rb 0 vs.toArray hx hy ?_ ?_ ?_ ?_
 ·rw [List.size_toArray];exact g1.there (by rw [hv.1,g2.1];omega)
 ·rw [List.size_toArray,hv.1];exact hi
 ·simpa using hv.one
 exact hK _ _ xx_ (by simpa using he vs) (by simpa using h1) trivial
theorem isz5:(prog.info? 209).map (·.size)=some 5:=by kernel_rfl
theorem isz8:(prog.info? 212).map (·.size)=some 8:=by kernel_rfl
theorem de_ {E:World->Prop} (he:∀ vs:VL,E w->E (w.setCells rb 0 vs)) {x y:Operand} {e:Nat} (hr:b<rb) (hX:X rb) (hZ:Z rb) (ho:o.op=.store 209 x y) (hx:a.eval x=.pointer (some (a_ rb))) (hy:(kEx ⟨X,E⟩ e).p w (a.eval y)) (hI:InvR d b lp X Z w0 rb (be_ e) pE w):RnK prog Q ⟨X,E⟩ (InvR d b lp X Z w0 rb (be_ e) pE) (kAny ⟨X,E⟩) o a w:=by
 obtain ⟨kd,n,s,op,A,m,c,hy,h1⟩:=hy;exact rk_store he hr hX hZ ho hx hy (by rw [ea_];exact isz5) h1.1 h1.2 hI
theorem bj_ {E:World->Prop} (he:∀ vs:VL,E w->E (w.setCells rb 0 vs)) {x y:Operand} {e:Nat} (hr:b<rb) (hX:X rb) (hZ:Z rb) (ho:o.op=.store 212 x y) (hx:a.eval x=.pointer (some (a_ rb))) (hy:(kSt ⟨X,E⟩ e).p w (a.eval y)) (hI:InvR d b lp X Z w0 rb (ah_ e) pS w):RnK prog Q ⟨X,E⟩ (InvR d b lp X Z w0 rb (ah_ e) pS) (kAny ⟨X,E⟩) o a w:=by
 obtain ⟨kd,s,f,n,op,A,m,c,B,m1,c1,C,m2,c2,hy,h1⟩:=hy;exact rk_store he hr hX hZ ho hx hy (by rw [cb_];exact isz8) h1.1 h1.2 hI
end
end Go.Proofs.YtfolidlmgfhkiaaGreat
namespace Go.Proofs.YtfolidlmgfhkiaaGreat.Dl
open Go.RowKit Go.Proofs.Tryz
def half (x:Pr):Pr:=⟨x.a,x.b,x.cnt / 2⟩
def bo_ (ts:List Pr):List Pr:=(ts.map half).filter (fun x=>decide (1<=x.cnt))
theorem decay_next {ts:List Pr} {k:Nat} {x:Pr} (hx:ts[k]?=some x):bo_ (ts.take (k+1))=bo_ (ts.take k) ++ if 1<=x.cnt / 2 then [half x] else []:=by
 rw [bo_,List.take_add_one,hx];simp only [Option.toList,List.map_append,List.filter_append,List.map_cons,List.map_nil]
 congr 1
 simp only [List.filter_cons,List.filter_nil,half];split <;> split <;> simp_all
theorem decay_len (ts:List Pr):(bo_ ts).length<=ts.length:=by
 unfold bo_;exact Nat.le_trans (List.length_filter_le _ _) t_
theorem decay_any (A:OA) (n c:Nat) (ts:List Pr) (w:World) (hs:Sl w w 3 Pr.cells A n ts) (hn:n<=900000) (hgood:∀ (i:Nat) (t:Pr),ts[i]?=some t->1<=t.cnt/\t.cnt<=1048576) :
  Calls prog 34 #[.agg #[.slice A n c]] w (Gives (bo_ ts) w):=by
 obtain ⟨i0,hi,Ak,Al,Am⟩:=info_parts CloneTrk.infoE;have Af:=q_ hgood;have HL:=q_ hs.len;clear hgood;obtain ⟨W,hW⟩:=ex_ (((w.alloc (.cells #[.slice A n c] 73)).alloc (.cells #[.slice none 0 0] 73)).alloc (.cells #[.slice none 0 0] 73));have Aa:Below w w W:=by rw [hW];exact (bel (b_))
 have Ab:(W:Nat)=w+3:=by rw [hW];simp
 have q0:W.cell? (a_ w)=some (.slice A n c):=yj_;have q2:W.cell? (a_ (w+1))=some (.slice none 0 0):=zs_;have Ad:W.frozen? (a_ (w+1))=false:=y2_;have q3:W.cell? (a_ (w+2))=some (.slice none 0 0):=zn_;have Ae:W.frozen? (a_ (w+2))=false:=xc_;have Ah:Hid (Out W (w+3) (w+2) (.slice none 0 0) []):=q_ ⟨q3,Ae,World.ownsRow_nil _ _ _ _,o_,o_⟩;have HQ:=h_ (W.cell? (a_ (w+1))=some (.slice none 0 0)/\W.frozen? (a_ (w+1))=false) (⟨q2,Ad⟩);have Aj:=q_ Aa;have HZ:=q_ Ab;clear q2 Ad q3 Ae Aa Ab;go_enter func34,ntmps34;go_wp2_with fail;rw [<-hW];clear hW;go_loopw [9] (fun i wr=>∃ (k:Nat) (v:Value),k<=n/\i=i_ k/\Hid (Out wr (w+3) (w+2) v (bo_ (ts.take k)))/\Hid (Below (w+2) W wr)) (fun i _=>n - (intOf i).toNat)
 case atStart=>exact ⟨0,_,Nat.zero_le _,rfl,Ah,q_ (b_)⟩
 obtain ⟨k,v,hk,rfl,hO,hb⟩:=hrel;have HR:=h_ (Below w w wr) (Aj.o.trans (hb.o.mono o_));have Au:(w:Nat)+3<=wr:=hO.o.le;have As:(w:Nat)+2<wr:=by omega
 have Ar:(w:Nat)+1<wr:=by omega
 have r1:wr.cell? (a_ (w+1))=some (.slice none 0 0):=(belc hb.o o_).trans HQ.o.1;have An:wr.frozen? (a_ (w+1))=false:=(belf hb.o o_).trans HQ.o.2;have r2:=hO.o.cell;have Aw:=hO.o.fr;obtain ⟨l,hl⟩:=ex_ (bo_ (ts.take k));rw [<-hl] at hO;have A6:=q_ hl;have A9:=h_ (l.length<=k) x7_;clear hl;by_cases hlt:k<n
 ·obtain ⟨ab,ao,rfl,A7,A2⟩:=hs.at_ o_;obtain ⟨x,hx⟩:∃ x,ts[k]?=some x:=⟨_,ge_ yr_⟩;have c0:wr.cell? ⟨ab,ao+k*3,none⟩=some (i_ x.a):=(belc HR.o A7).trans (A2 k x hx 0 _ rfl);have c1:wr.cell? ⟨ab,ao+k*3+1,none⟩=some (i_ x.b):=(belc HR.o A7).trans (A2 k x hx 1 _ rfl);have c2:wr.cell? ⟨ab,ao+k*3+2,none⟩=some (i_ x.cnt):=(belc HR.o A7).trans (A2 k x hx 2 _ rfl);obtain ⟨Ap,Aq⟩:=Af.o k x hx;have HX:=q_ hx;clear A2 hx;by_cases hc:1<=x.cnt / 2
  ·have A5:=h_ (bo_ (ts.take (k+1))=l ++ [half x]) (by rw [decay_next HX.o,<-A6.o,if_pos hc]);have A8:=q_ ((bel (Below.refl wr wr)):Below wr wr ((wr.alloc (.cells #[i_ x.a,i_ x.b,i_ (x.cnt / 2)] 85)).alloc (.cells #[i_ x.a,i_ x.b,i_ (x.cnt / 2)] 85)));have Ag:=h_ (∀ ad,(some (a_ (wr+1)):OA)=some ad->∀ (j:Nat) (u:Value),(Pr.cells (half x))[j]?=some u->((wr.alloc (.cells #[i_ x.a,i_ x.b,i_ (x.cnt / 2)] 85)).alloc (.cells #[i_ x.a,i_ x.b,i_ (x.cnt / 2)] 85)).cell? (ad.add j)=some u) (fun ad h j u hu=>by
    injection h with h
    subst h
    rw [Addr.add_lit,ar_ _ _ _ _ _ t_,Nat.zero_add,List.getElem?_toArray]
    exact hu)
   go_wp2_with (at_builtin;refine ca_ rfl _ _ 71 rfl (w+3) 85 i0 _ 3 24 underlying71 hi Ak Al Am rfl d_ v l.length (l.flatMap Pr.cells) rfl (own_below hO.o.own A8.o) (some (a_ (wr+1))) 1 1 (Pr.cells (half x)) rfl y9_ rfl Ag.o z6_ (by have:=A9.o;unfold maxLen;omega) (by have:=A9.o;omega) zm_ ?_;intro A3 c3 w3 A0 A1 _;have A4:=hO.o.more A8.o A1;have u2:=A4.1;have Ao:=A4.2.1;have Ac:=A4.2.2);have Ai:=q_ A0;have Av:=Ac.size;clear A0 A1 A4;go_roundw
   case rel=>exact ⟨k+1,_,o_,za_,q_ (by rw [A5.o];exact ⟨World.cell?_setCell_same _ _ _ u2,by rw [World.frozen?_setCell];exact Ao,(by
     have h5:=Ai.o
     rw [List.length_append,List.flatMap_append]
     exact ba_ (by simpa using h5) _ (fun e=>by have:=h5.lt _ e;first | omega | (simp at this <;> omega))),o_,zm_⟩),q_ ((hb.o.trans (Ac.mono o_)).setCell vo_ _)⟩
   case measure=>exact me_
  have A5:=h_ (bo_ (ts.take (k+1))=l) (by rw [decay_next HX.o,<-A6.o,if_neg hc,List.append_nil]);go_wp2;go_roundw
  case rel=>exact ⟨k+1,v,o_,za_,q_ (by rw [A5.o];exact hO.o.below ((bel (b_)))),q_ ((bel hb.o))⟩
  case measure=>exact me_
 obtain rfl:k=n:=by omega
 have HE:=h_ (l=bo_ ts) w2_;obtain ⟨A',c',hv⟩:∃ A' c',v=.slice A' l.length c':=by
  rcases hO.o.own.2 with ⟨h,h0⟩ | ⟨g,cap,cur,h,_⟩
  ·exact ⟨none,0,by rw [h0];exact h⟩
  exact ⟨_,_,h⟩
 subst hv;go_wp2;refine bodyPost_ret (v:=.agg #[.slice A' l.length c']) (by simp [results,results34,go_sem,r1,An]) rfl ⟨A',_,c',rfl,?_,(bel HR.o),own_lo hO.o.own o_⟩;have h5:=hO.o.own;rw [<-HE.o];exact Sl.da_ Pr.size rfl (ba_ h5 _ (fun e=>by have:=h5.lt _ e;first | omega | (simp at this <;> omega)))
end Go.Proofs.YtfolidlmgfhkiaaGreat.Dl
namespace Go.Proofs.YtfolidlmgfhkiaaGreat
open Go.RowKit Go.Proofs.Tryz
theorem before_t (X:NP) (K:Nat) (A:OA) (n c:Nat) (L:Nat) (vs:VL) (w:World) (h:SlT w X K objT A n c) (hK:K<=1000000000000) (ht:VTs w X L af_ vs) (hL:L<=1000000000000) (hX:∀ k,X k->k<w) :
  Calls prog 136 #[.agg vs.toArray,.agg #[.slice A n c]] w fun e w'=>RH X K e w'/\Below w w w':=by
 obtain ⟨GA,gn,gc,A4,Ag⟩:=ht.slc (j:=36) (e:=aq_) rfl;obtain ⟨RA,rn,rc,A5,Ap⟩:=ht.slc (j:=37) (e:=aq_) rfl;obtain ⟨W,hW,A2,AF,B0,B1,B2,B3⟩:=blocks4 w vs 65 [.slice A n c] 35 [.slice none 0 0] 35 [.slice A n c] 35;have A7:∀ k,k<w.heap.size->¬X k->¬(X k\/(w.heap.size<=k/\k<w.heap.size+4)):=fun k hk h1 h2=>by rcases h2 with h2 | h2;exact h1 h2;omega
 have H:=q_ (h.kept (Y:=fun k=>X k\/(w<=k/\k<w+4)) (Kp.of_below A2) A7 (Nat.le_refl K));have HG:=q_ (Ag.kept (Y:=fun k=>X k\/(w<=k/\k<w+4)) (Kp.of_below A2) A7 (Nat.le_refl L));have HR:=q_ (Ap.kept (Y:=fun k=>X k\/(w<=k/\k<w+4)) (Kp.of_below A2) A7 (Nat.le_refl L));have HW:=q_ A2;have Ar:=q_ B0;have AK:=q_ B1;have As:=q_ B2;have Au:=q_ B3;have AL:=Ag.le;have Ac:=h_ (∀ k,(X k\/(w<=k/\k<w+4))->k<W) (fun k hk=>by rcases hk with hk | hk;have:=hX k hk;omega;omega);have AH:=B0.2.1 36 _ A4;have Aq:(w:Nat)+4=W:=by omega
 have Am:=q_ Aq;have HF:=q_ A5;clear h ht hX B0 B2 B3 A2 AF Ag Ap A7 Aq A4 A5;have c1:=B1.2.1 0 _ rfl;clear B1;go_enter func136,ntmps136;go_upto_region 2 with fail;rw [<-hW];clear hW c1;go_upto_region 3 with fail;clear AH;go_loopw [12] (fun i wr=>∃ (k:Nat) (C:OA) (q d:Nat),k<=gn/\i=i_ k/\Hid (SlT wr (fun k=>X k\/(w<=k/\k<w+4)) K objT C q d)/\Hid (Bx wr w vs)/\Hid (Bx wr (w+2) [.slice none 0 0])/\Hid (Bx wr (w+3) [.slice C q d])/\Hid (Kp (fun k=>k=w+3) W wr)) (fun i _=>gn - (intOf i).toNat)
 case atStart=>exact ⟨0,A,n,c,o_,rfl,H,Ar,As,Au,q_ (Kp.refl _ _)⟩
 obtain ⟨k,C,q,d,hk,rfl,hC,Af,An,Ao,A9⟩:=hrel;have AO:=A9.o.size;have A8:Kp (fun k=>X k\/(w<=k/\k<w+4)) W wr:=A9.o.mono (fun k _ h=>.inr ⟨o_,o_⟩);have Aa:=q_ (HR.o.up A8 (Nat.le_refl L));by_cases hlt:k<gn
 ·have Ah:(k:Int)<(gn:Int):=by omega
  obtain ⟨g,o,rfl,hg,x,hx⟩:=(HG.o.up A8 (Nat.le_refl L)).ds_ hlt;obtain ⟨c4,c5,c6,c7⟩:=hx wr (b_);obtain ⟨V,hV,A0,AE,V0⟩:=ag_ wr [i_ x.id,i_ x.field,.bool x.ref,i_ x.n] 87;have v0:=V0.2.1 0 _ rfl;have v1:=V0.2.1 1 _ rfl;have AJ:=(Af.o.below A0).2.1 37 _ HF.o;have A6:=q_ V0;have AD:=q_ (Ao.o.below A0);have AC:=q_ (Af.o.below A0);have AB:=q_ (An.o.below A0);have Av:=q_ (hC.o.up (Kp.of_below A0) (l_));have Ay:=q_ (Aa.o.up (Kp.of_below A0) (l_));have Ax:=q_ (A9.o.trans (.of_below A0));have AM:=A0.size;clear hx A8 A0 AE V0 Aa;go_upto_region 5 with fail;rw [<-hV];clear hV c4 c5 c6 c7;go_wp2_with fail;refine (at_t _ L RA rn rc x.id x.field V Ay.o o_).mono ?_;rintro e Y ⟨⟨p,rfl,hp⟩,hY⟩;clear hp v0 v1 AJ;have Ad:=q_ (AD.o.below hY);have Al:=q_ (AC.o.below hY);have Ak:=q_ (AB.o.below hY);have Ai:=q_ (Av.o.up (Kp.of_below hY) (l_));have Aj:=q_ (Ax.o.trans (.of_below hY));have AN:=hY.size;have y0:=(A6.o.below hY).2.1 0 _ rfl;have y1:=(A6.o.below hY).2.1 1 _ rfl;have y2:=(A6.o.below hY).2.1 2 _ rfl;have y3:=(A6.o.below hY).2.1 3 _ rfl;have x0:=Ad.o.2.1 0 _ rfl;clear hY;by_cases hp:p<0
  ·go_wp2_with fail;refine (Written_t (fun k=>X k\/(w<=k/\k<w+4)) K C q d 1 _ 1 1 _ (Ai.o.up ((Kp.refl _ Y).alloc _) (l_)) o_ (SlT.lit1 (e:=aq_) (eg_ _ _ _ _) _ (fun h=>by have:=Ac.o _ h;omega) (Nat.le_refl 1)) o_ (fun k hk=>by have:=Ac.o k hk;simp;omega)).mono ?_;rintro e S ⟨⟨C2,q2,d3,rfl,Ae⟩,hS⟩;have A3:=((Below.refl Y Y).alloc (l_) _).trans (hS.mono t_);have Ab:=q_ (Ad.o.below A3);have Az:=q_ (Al.o.below A3);have A1:=q_ (Ak.o.below A3);have Aw:=q_ (Aj.o.trans (.of_below A3));have s0:=Ab.o.2.1 0 _ rfl;have s1:=Ab.o.2.2;clear hS A3 y0 y1 y2 y3 x0;go_wp2;go_roundw
   case rel=>exact ⟨k+1,C2,q2,d3,o_,za_,q_ (Ae.o.up ((Kp.refl _ S).setCell (p:=(a_ (w+3))) (.inl (.inr ⟨by show (w:Nat)<=w+3;omega,by show (w:Nat)+3<w+4;omega⟩)) _) o_),q_ (Az.o.far (by show (w:Nat)+3≠w;omega) _),q_ (A1.o.far (by show (w:Nat)+3≠w+2;omega) _),q_ (Ab.o.set 0 _),q_ (Aw.o.setCell (p:=(a_ (w+3))) (.inl rfl) _)⟩
   case measure=>exact me_
  clear y0 y1 y2 y3 x0;go_wp2;go_roundw
  case rel=>exact ⟨k+1,C,q,d,o_,za_,Ai,Al,Ak,Ad,Aj⟩
  case measure=>exact me_
 have Ah:¬(k:Int)<(gn:Int):=by omega
 have x0:=Ao.o.2.1 0 _ rfl;have AI:=Af.o.2.1 37 _ HF.o;go_wp2_with fail;refine (Written_t (fun k=>X k\/(w<=k/\k<w+4)) K C q d L RA rn rc wr hC.o o_ Aa.o o_ (fun k hk=>by have:=Ac.o k hk;omega)).mono ?_;rintro e S ⟨⟨C2,q2,d3,rfl,Ae⟩,hS⟩;have A1:=q_ (An.o.below hS);have s0:=A1.o.2.1 0 _ rfl;have s1:=A1.o.2.2;have AA:=q_ hS;clear hS x0 AI A8;go_wp2;refine retC results136 zc_ underlying35 rfl k_ (cs:=[_]) (A1.o.set 0 _).whole rfl ?_;have AG:Below w w (S.setCell (a_ (w+2)) (.slice C2 q2 d3)):=((HW.o.trans (A9.o.below (B:=w) (by have:=Am.o;omega) (fun k hk h=>o_))).trans (AA.o.mono (by have:=Am.o;omega))).setCell x9_ _;exact ⟨⟨_,_,_,rfl,q_ ((Ae.o.up ((Kp.refl _ S).setCell (p:=(a_ (w+2))) (.inl (.inr ⟨x9_,by show (w:Nat)+2<w+4;omega⟩)) _) (Nat.le_refl K)).kept (Kp.refl _ _) (fun k _ h h2=>h (.inl h2)) (l_))⟩,AG⟩
def RWr (e:Ending):Prop:=∃ (x:Cl) (b:Bool),e=.returned (.tuple #[.agg #[i_ x.id,i_ x.field,.bool x.ref,i_ x.n],.bool b])
theorem Wrong_t (X:NP) (K:Nat) (A:OA) (n c:Nat) (L:Nat) (B:OA) (m d:Nat) (w:World) (h:SlT w X K objT A n c) (hK:K<=4398046510976) (hl:SlT w X L aq_ B m d) (hL:L<=4398046510976) :
  Calls prog 180 #[.agg #[.slice A n c],.slice B m d] w fun e w'=>RWr e/\Below w w w':=by
 obtain ⟨W,hW,A2,A9,B0,B1⟩:=cn_ w [.slice A n c] 35 [i_ 0,i_ 0,.bool false,i_ 0] 87;have H:=q_ (h.up (Kp.of_below A2) (l_));have HC:=q_ (hl.up (Kp.of_below A2) (l_));have A8:=q_ B0;have A5:=q_ B1;have HW:=q_ A2;have hm:=hl.le;have Ae:(w:Nat)<W:=by omega
 clear h hl B0 B1 A2 A9;go_enter func180,ntmps180;go_upto_region 1 with fail;rw [<-hW];clear hW;go_upto_region 2 with fail;go_loopw [12] (fun i wr=>∃ k:Nat,k<=m/\i=i_ k/\Below W W wr) (fun i _=>m - (intOf i).toNat)
 case atStart=>exact ⟨0,o_,rfl,b_⟩
 obtain ⟨k,hk,rfl,hb⟩:=hrel;have Aa:=hb.size;have HB:=q_ hb;by_cases hlt:k<m
 ·have A4:(k:Int)<(m:Int):=by omega
  obtain ⟨g,o,rfl,hg,x,hx⟩:=HC.o.ds_ hlt;obtain ⟨c0,c1,c2,c3⟩:=hx wr hb;obtain ⟨V,hV,A7,Ac,V0⟩:=ag_ wr [i_ x.id,i_ x.field,.bool x.ref,i_ x.n] 87;have HV:=q_ V0;have A1:=h_ (Below W W V) (hb.trans (A7.mono Aa));have a0:=(A8.o.below A1.o).2.1 0 _ rfl;have v0:=V0.2.1 0 _ rfl;have v1:=V0.2.1 1 _ rfl;clear hx hb A7 V0;go_upto_region 4 with fail;rw [<-hV];clear hV c0 c1 c2 c3;go_wp2_with fail;refine (Read_t X K A n c x.id x.field V (H.o.up (Kp.of_below A1.o) (l_)) o_).mono ?_;rintro e S ⟨⟨v,ok,rfl⟩,hS⟩;obtain ⟨T,hT,A6,Ab,T0⟩:=ag_ S [.bool v.ref,i_ v.n] 38;have A0:=h_ (Below V V T) (hS.trans (A6.mono hS.size));have A3:=h_ (Below W W T) (A1.o.trans (A0.o.mono A1.o.size));have t0:=T0.2.1 0 _ rfl;have t1:=T0.2.1 1 _ rfl;have v0:=(HV.o.below A0.o).2.1 0 _ rfl;have v1:=(HV.o.below A0.o).2.1 1 _ rfl;have v2:=(HV.o.below A0.o).2.1 2 _ rfl;have v3:=(HV.o.below A0.o).2.1 3 _ rfl;have HR:=q_ (A5.o.below A3.o);have r0:=HR.o.2.1 0 _ rfl;have r1:=HR.o.2.1 1 _ rfl;have r2:=HR.o.2.1 2 _ rfl;have r3:=HR.o.2.1 3 _ rfl;have rf:=HR.o.2.2;have Ad:(w:Nat)+1<T:=HR.o.1;have HF:=h_ (Below w w T) (HW.o.trans (A3.o.mono HW.o.size));clear hS A6 T0 a0;go_upto_region 5 with fail;rw [<-hT];clear hT;obtain ⟨vr,vn⟩:=v;obtain ⟨xi,xf,xr,xn⟩:=x;go_wp2;all_goals first
   | (refine ce_ results180 zc_ underlying87 rfl k_ (cs:=[_,_,_,_]) ((((HR.o.set 0 _).set 1 _).set 2 _).set 3 _).whole rfl ?_
      exact ⟨⟨⟨xi,xf,xr,xn⟩,true,rfl⟩,(bel HF.o)⟩)
   | (go_roundw
      case rel=>exact ⟨k+1,o_,za_,A3.o⟩
      case measure=>exact me_)
 have A4:¬(k:Int)<(m:Int):=by omega
 have HR:=q_ (A5.o.below HB.o);have r0:=HR.o.2.1 0 _ rfl;have r1:=HR.o.2.1 1 _ rfl;have r2:=HR.o.2.1 2 _ rfl;have r3:=HR.o.2.1 3 _ rfl;have rf:=HR.o.2.2;have HF:=h_ (Below w w wr) (HW.o.trans (HB.o.mono HW.o.size));clear hb;go_wp2;refine ce_ results180 zc_ underlying87 rfl k_ (cs:=[_,_,_,_]) ((((HR.o.set 0 _).set 1 _).set 2 _).set 3 _).whole rfl ?_;exact ⟨⟨⟨0,0,false,0⟩,false,rfl⟩,(bel HF.o)⟩
end Go.Proofs.YtfolidlmgfhkiaaGreat
namespace Go.Proofs.YtfolidlmgfhkiaaGreat.Dl
open Go.RowKit Go.Shelf
attribute [local go_sem] Oper.semAt_some
theorem backward_any (A:OA) (n c:Nat) (w:World) :
  Calls Tryz.prog 67 #[.slice A n c] w fun e w'=>e=.returned (.func (.func 107) #[] #[.pointer (some (a_ w))])/\w'=w.alloc (.cells #[.slice A n c] 41):=by
 go_enter Tryz.func67,Tryz.ntmps67;go_wp2;go_ret;exact ⟨rfl,rfl⟩
def cnd (ts:List Pr) (thr st:Int) (t:Tk):Bool:=(t.status == 0 || t.status == 1) && decide (thr<=countP ts t.start st)
def co_ (ts:List Pr) (l:List Tk) (k:Nat) (thr st:Int):Int:=match (rvTo l k).find? (fun x=>cnd ts thr st x.2) with | some x=>x.1 | none=>-1
theorem rvTo_take (l:List Tk) (k:Nat):∀ j,j<=k->rvTo (l.take k) j=rvTo l j
 | 0,_=>rfl
 | j+1,h=>by
  unfold rvTo;rw [List.getElem?_take,if_pos o_,rvTo_take l k j o_]
theorem find_none {α:Type} {p:α->Bool}:∀ {l:List α},(∀ x ∈ l,p x=false)->l.find? p=none
 | [],_=>rfl
 | y :: l,h=>by rw [List.find?_cons,h y t_];exact find_none fun x hx=>h x (by simp [hx])
theorem find_at {α:Type} {p:α->Bool} {x:α} {r:List α} (hx:p x=true):∀ {q:List α},(∀ y ∈ q,p y=false)->(q ++ x :: r).find? p=some x
 | [],_=>by rw [List.nil_append,List.find?_cons,hx]
 | y :: q,h=>by rw [List.cons_append,List.find?_cons,h y t_];exact find_at hx fun z hz=>h z (by simp [hz])
theorem mem_snoc {α:Type} {p:α->Prop} {q:List α} {x:α} (h:∀ y ∈ q,p y) (hx:p x):∀ y ∈ q ++ [x],p y:=fun y hy=>by
 rcases List.mem_append.1 hy with h1 | h1
 ·exact h y h1
 obtain rfl:=List.mem_singleton.1 h1;exact hx
theorem ei_ {B:Nat} {W W':World} (h:Below W W W'):KeepsFrom B W W':=⟨h.size,fun k _ _ hk _=>(h.block k (Array.getElem?_eq_some_iff.1 hk).1).trans hk⟩
theorem keeps_set {B b:Nat} {W:World} (hb:b<B) (v:Value):KeepsFrom B W (W.setCell (a_ b) v):=⟨zk_,fun k _ hB hk _=>(Below.heap_setCell _ _ _ k (by show k≠b;omega)).trans hk⟩
theorem blk_cell {W:World} {b:Nat} {c:VL} {t:TypeId} (h:W.heap[b]?=some (.cells c.toArray t (0,0))) {j:Nat} {u:Value} (hu:c[j]?=some u):W.cell? (f_ b j)=some u:=by
 rw [cell_of_row W b j c.toArray t (0,0) h,List.getElem?_toArray];exact hu
theorem fb_ (A:OA) (n c:Nat) (ts:List Pr) (B:OA) (m d:Nat) (l:List Tk) (k:Nat) (thr:Int) (s:Tk) (w:World) (hs:Sl w w 3 Pr.cells A n ts) (hsort:Sorted ts) (hn:n<=900000)
  (hl:Sl w w 48 Tk.cells B m l) (hm:m<=900000) (hd:m<=d) (hk:l[k]?=some s) (hth:1<=thr) :
  Calls Tryz.prog 32 #[.agg #[.slice A n c],.slice B m d,i_ k,i_ thr] w fun e w'=>e=.returned (i_ (co_ ts l k thr s.start))/\Below w w w':=by
 have AE:k<m:=by rw [<-hl.len];exact (e_ hk).1
 obtain ⟨ab,ao,rfl,AA,Am⟩:=hl.at_ o_;have HK:=q_ hk;have HS:=q_ hsort;have Ar:=q_ hs;have Ak:=q_ hl;have Az:k<=d:=by omega
 have AD:(k:Int)<(m:Int):=by omega
 have AH:∀ w',(Instr.slice 41 (.slice (some (f_ ab ao)) m d) none (some (i_ (k:Int))) none).run Tryz.prog w'=.ok (.slice (some (f_ ab ao)) k d) w':=slice_high (i:=(Tryz.prog.info? 65).get!) Tryz.underlying41 k_ Az;have cs:w.cell? ⟨ab,ao+k*48,none⟩=some (i_ s.start):=Am k s hk 0 _ s.c0;clear Am hk hsort;refine (callsIn_wide (n:=7)).1 ?_;refine callsIn_of_wp_marks Tryz.func32 rfl trivial ?_ rfl;simp only [Tryz.ntmps32,List.size_toArray,List.length_cons,List.length_nil,Nat.reduceAdd,Nat.reduceSub,Array.replicate_succ,Array.replicate_zero,List.push_toArray,List.append_toArray,List.nil_append,List.cons_append]
 gi_wp2_with fail
 refine ⟨trivial,?_⟩;refine (callsIn_wide.2 (backward_any (some (f_ ab ao)) k d _)).mono ?_;rintro e w' ⟨rfl,rfl⟩;obtain ⟨U,hU⟩:=ex_ ((((((w.alloc (.cells #[.slice A n c] 73)).alloc (.cells #[.slice (some (f_ ab ao)) m d] 41)).alloc (.cells #[i_ k] 3)).alloc (.cells #[i_ thr] 3)).alloc (.cells #[i_ 0] 3)).alloc (.cells #[.slice (some (f_ ab ao)) k d] 41));rw [<-hU];have Ap:(U:Nat)=w+6:=by rw [hU];simp
 have Ag:Below w w U:=by rw [hU];exact (bel (b_))
 have b4:U.cell? (a_ w)=some (.slice A n c):=(by rw [hU,ak_ _ _ _ _ y_,ak_ _ _ _ _ y_,ak_ _ _ _ _ y_,ak_ _ _ _ _ y_,ak_ _ _ _ _ y_,ar_ _ _ _ _ _ y_];rfl);have b5:U.cell? (a_ (w+1))=some (.slice (some (f_ ab ao)) m d):=(by rw [hU,ak_ _ _ _ _ y_,ak_ _ _ _ _ y_,ak_ _ _ _ _ y_,ak_ _ _ _ _ y_,ar_ _ _ _ _ _ y_];rfl);have b6:U.cell? (a_ (w+2))=some (i_ k):=xg_;have b7:U.cell? (a_ (w+3))=some (i_ thr):=x8_;have b8:U.cell? (a_ (w+4))=some (i_ 0):=w9_;have A9:U.frozen? (a_ (w+4))=false:=(by rw [hU,dv_ _ _ _ _ y_,bw_ _ _ _ _ _ y_]);have b9:U.cell? (a_ (w+5))=some (.slice (some (f_ ab ao)) k d):=(by rw [hU,ar_ _ _ _ _ _ y_];rfl);have HB:=h_ (U.cell? (a_ w)=some (.slice A n c)/\U.cell? (a_ (w+1))=some (.slice (some (f_ ab ao)) m d)/\U.cell? (a_ (w+2))=some (i_ k)/\U.cell? (a_ (w+3))=some (i_ thr)/\U.cell? (a_ (w+4))=some (i_ 0)/\U.frozen? (a_ (w+4))=false) (⟨b4,b5,b6,b7,b8,A9⟩);have A1:=q_ Ap;have Ai:=q_ Ag;have Aq:=q_ cs;have Ab:Sl U (w+6) 48 Tk.cells (some (f_ ab ao)) k (l.take k):=⟨by rw [List.length_take];have:=Ak.o.len;omega,fun _=>by
  obtain ⟨Au,Av,e,h1,h2⟩:=(Ak.o.below Ag).at_ o_
  exact ⟨Au,Av,e,o_,fun i x hx j u hu=>h2 i x (by rw [List.getElem?_take] at hx;split at hx;exact hx;cases hx) j u hu⟩⟩
 have As:=q_ Ab;have g1:decide (thr<1)=false:=by simpa using hth
 have g2:decide ((k:Int)<0)=false:=by simp
 have AG:(w+1+1+1+1+1:Nat)=(w:Nat)+5:=by omega
 clear hU b4 b5 b6 b7 b8 A9 Ab cs Ap Ag
 gi_wp2
 refine wpIn_rangeFunc_ownH rfl o_ (gf:=107) (lb:=#[.pointer (some (a_ (w+5)))]) rfl trivial (enters_of Tryz.func107 k_ rfl)
  (back_stops 6 (w+6) (w+5) o_ (some (f_ ab ao)) k d (l.take k) o_ o_ U ws_ b9 As.o) belowK_t (belowK_b ws_) (b_) (fun _=>rfl)
  (fun A4 W=>(∀ x ∈ A4,cnd ts thr s.start x.2=false)/\Below (w+6) U W)
  (fun e A4 W=>(e=.ret/\(∃ x q,A4=q ++ [x]/\(∀ y ∈ q,cnd ts thr s.start y.2=false)/\cnd ts thr s.start x.2=true/\W.cell? (a_ (w+4))=some (i_ x.1)))/\Below w w W)
  (OwnFrom.and (ownFrom_pure _ _) (ownFrom_below ws_ ws_))
  (fun e=>OwnFrom.and (Own.from (fun s X Y row hs hg hr=>by
   obtain ⟨h1,x,q,h2,h3,h4,h5⟩:=hs
   exact ⟨h1,x,q,h2,h3,h4,cell_kept h5 hg hr⟩) _) (ownFrom_below (l_) ws_))
  ⟨zk_,b_⟩
  (fun x a' W=>∃ Bx,w.heap.size+6<=Bx/\W.heap[Bx]?=some (.cells x.2.cells.toArray 65 (0,0))/\a'={ tmps:=#[.agg #[.slice A n c],.slice (some (f_ ab ao)) m d,i_ k,i_ thr,.pointer (some (a_ w.heap.size)),.pointer (some (a_ (w.heap.size+1))),.pointer (some ⟨w.heap.size+1+1,0,none⟩),.pointer (some ⟨w.heap.size+1+1+1,0,none⟩),.pointer (some ⟨w.heap.size+1+1+1+1,0,none⟩),i_ x.1,.pointer (some (a_ Bx)),i_ thr,.bool false,.bool false,i_ k,.bool false,.bool false,.bool false,i_ k,.slice (some (f_ ab ao)) m d,i_ m,.bool false,.bool false,.slice (some (f_ ab ao)) m d,i_ k,.slice (some (f_ ab ao)) k d,.func (.func 107) #[] #[.pointer (some ⟨w.heap.size+1+1+1+1+1,0,none⟩)],i_ x.1,.agg x.2.cells.toArray,undef,undef,undef,undef,undef,undef,undef,undef,undef,undef,undef,undef,undef,undef,undef,undef,undef,undef,undef,undef,undef,undef],defers:=[] })
  (fun x a' _ X Y row hs hg hr=>by
   obtain ⟨Bx,h1,h2,h3⟩:=hs
   refine ⟨Bx,h1,(hg.block Bx (Array.getElem?_eq_some_iff.1 h2).1 (fun e=>?_)).trans h2,h3⟩
   obtain ⟨_,o,ho,hc⟩:=hr Bx e.symm
   rw [h2] at ho
   injection ho with ho
   subst ho
   cases hc)
  ?assign ?body ?done ?stop
 case assign =>
  rintro lp A4 x W K ⟨A6,hB⟩ hK;have A7:=A1.o;unfold tkv
  gi_wp2_with (with_reducible refine wpListIn_store_tk rfl (.tmp 10) (.tmp 28) rfl x.2 t_ v_ v_ ?_)
  exact hK _ _ ((KeepsOthers.alloc _ _).from _) ((Below.refl _ W).alloc (by have:=hB.size;omega) _) ⟨A6,hB.alloc (by have:=hB.size;omega) _⟩ ⟨W,by have:=hB.size;omega,heap_new W _,rfl⟩
 case body =>
  rintro lp A4 x a' W hl _ ⟨A6,hB⟩ ⟨Bx,AC,bX,rfl⟩ AF;have A7:=A1.o;have AB:=hB.size;have b4:=(belc hB o_).trans HB.o.1;have b5:=(belc hB o_).trans HB.o.2.1;have b6:=(belc hB o_).trans HB.o.2.2.1;have b7:=(belc hB o_).trans HB.o.2.2.2.1;have b8:=(belc hB o_).trans HB.o.2.2.2.2.1;have A9:=(belf hB (b:=w+4) (o:=0) o_).trans HB.o.2.2.2.2.2;have Ad:=Ai.o.trans (hB.mono o_);have cs:=(belc Ad AA).trans Aq.o;have x0:=blk_cell bX x.2.c0;have A8:=blk_cell bX x.2.c42;have A2:Bx<W:=(Array.getElem?_eq_some_iff.1 bX).1;have An:=Ar.o.up (Below.drew Ad);have HX:=q_ An;have A3:=q_ A6;have Aj:=q_ Ad;have Af:=q_ hB;clear An A6 Ad bX hB;by_cases hst:x.2.status=0
  ·have Ac:(x.2.status == 0)=true:=by simp [hst]
   rw [hst] at A8
   gi_wp2
   refine region_round (S:=fun w'=>w'.cell? (a_ w)=some (.slice A n c)/\w'.cell? (a_ (w+1))=some (.slice (some (f_ ab ao)) m d)/\w'.cell? (a_ (w+2))=some (i_ k)/\w'.cell? (a_ (w+3))=some (i_ thr)/\w'.cell? ⟨ab,ao+k*48,none⟩=some (i_ s.start)/\w'.cell? (a_ Bx)=some (i_ x.2.start)/\w'.cell? (f_ Bx 42)=some (i_ 0)) k_ k_ (fun _ _ h=>h) ⟨b4,b5,b6,b7,cs,x0,A8⟩ (fun _=>?_);refine aa_ 0 29 ?_;refine aa_ 1 30 ?_;refine aa_ 2 31 ?_;refine aa_ 3 32 ?_;refine ae_ 4 33 ?_;refine ae_ 5 34 ?_;refine ae_ 6 35 ?_;refine aa_ 7 36 ?_;refine aa_ 8 37 ?_;refine aa_ 9 38 ?_;refine aa_ 10 39 ?_;refine aa_ 11 40 ?_;refine aa_ 12 41 ?_;refine aa_ 13 42 ?_;refine aa_ 14 43 ?_;refine aa_ 15 44 ?_;refine aa_ 16 45 ?_;refine aa_ 18 47 ?_;refine wpAnyH_ready (rs:=[17]) k_ t_ ?_;refine AllReadyH.cons rfl (fun K hK=>?_) AllReadyH.nil;go_simp;refine (dz_ A n c ts x.2.start s.start W.drew HX.o HS.o o_).mono ?_;rintro e w1 ⟨rfl,A0⟩;have A0:Below W W w1:=(Below.drew (b_)).trans A0;refine hK.out _ _ ⟨(belc A0 o_).trans b4,(belc A0 o_).trans b5,(belc A0 o_).trans b6,(belc A0 o_).trans b7,(belc A0 o_).trans cs,(belc A0 A2).trans x0,(belc A0 A2).trans A8⟩ (fun A5=>?_);refine aa_ 19 48 ?_;refine aa_ 20 49 ?_;refine wpAnyH_done k_ ?_ _;by_cases hge:thr<=countP ts x.2.start s.start
   ·have Ay:=q_ hge;have c8:=(belc A0 o_).trans b8;have Aw:=(belf A0 (b:=w+4) (o:=0) o_).trans A9;have HC:=h_ (cnd ts thr s.start x.2=true) (by unfold cnd;simp [hst,hge])
    gi_wp2
    exact un_
   have Ah:countP ts x.2.start s.start<thr:=by omega
   have HC:=h_ (cnd ts thr s.start x.2=false) (by unfold cnd;simp [hst,hge])
   gi_wp2
   exact ⟨ei_ A0,A0.mono o_,zj_,Af.o.trans (A0.mono o_)⟩
  by_cases hst1:x.2.status=1
  ·have Ac:(x.2.status == 1)=true:=by simp [hst1]
   rw [hst1] at A8
   gi_wp2
   refine region_round (S:=fun w'=>w'.cell? (a_ w)=some (.slice A n c)/\w'.cell? (a_ (w+1))=some (.slice (some (f_ ab ao)) m d)/\w'.cell? (a_ (w+2))=some (i_ k)/\w'.cell? (a_ (w+3))=some (i_ thr)/\w'.cell? ⟨ab,ao+k*48,none⟩=some (i_ s.start)/\w'.cell? (a_ Bx)=some (i_ x.2.start)/\w'.cell? (f_ Bx 42)=some (i_ 1)) k_ k_ (fun _ _ h=>h) ⟨b4,b5,b6,b7,cs,x0,A8⟩ (fun _=>?_);refine aa_ 0 29 ?_;refine aa_ 1 30 ?_;refine aa_ 2 31 ?_;refine aa_ 3 32 ?_;refine aa_ 4 33 ?_;refine aa_ 5 34 ?_;refine aa_ 6 35 ?_;refine aa_ 7 36 ?_;refine aa_ 8 37 ?_;refine aa_ 9 38 ?_;refine aa_ 10 39 ?_;refine aa_ 11 40 ?_;refine aa_ 12 41 ?_;refine aa_ 13 42 ?_;refine aa_ 14 43 ?_;refine aa_ 15 44 ?_;refine aa_ 16 45 ?_;refine aa_ 18 47 ?_;refine wpAnyH_ready (rs:=[17]) k_ t_ ?_;refine AllReadyH.cons rfl (fun K hK=>?_) AllReadyH.nil;go_simp;refine (dz_ A n c ts x.2.start s.start W.drew HX.o HS.o o_).mono ?_;rintro e w1 ⟨rfl,A0⟩;have A0:Below W W w1:=(Below.drew (b_)).trans A0;refine hK.out _ _ ⟨(belc A0 o_).trans b4,(belc A0 o_).trans b5,(belc A0 o_).trans b6,(belc A0 o_).trans b7,(belc A0 o_).trans cs,(belc A0 A2).trans x0,(belc A0 A2).trans A8⟩ (fun A5=>?_);refine aa_ 19 48 ?_;refine aa_ 20 49 ?_;refine wpAnyH_done k_ ?_ _;by_cases hge:thr<=countP ts x.2.start s.start
   ·have Ay:=q_ hge;have c8:=(belc A0 o_).trans b8;have Aw:=(belf A0 (b:=w+4) (o:=0) o_).trans A9;have HC:=h_ (cnd ts thr s.start x.2=true) (by unfold cnd;simp [hst1,hge])
    gi_wp2
    exact un_
   have Ah:countP ts x.2.start s.start<thr:=by omega
   have HC:=h_ (cnd ts thr s.start x.2=false) (by unfold cnd;simp [hst1,hge])
   gi_wp2
   exact ⟨ei_ A0,A0.mono o_,zj_,Af.o.trans (A0.mono o_)⟩
  have Ac:(x.2.status == 0)=false:=by simp [hst]
  have Ao:(x.2.status == 1)=false:=by simp [hst1]
  gi_wp2
  refine region_round (S:=fun w'=>w'.cell? (a_ w)=some (.slice A n c)/\w'.cell? (a_ (w+1))=some (.slice (some (f_ ab ao)) m d)/\w'.cell? (a_ (w+2))=some (i_ k)/\w'.cell? (a_ (w+3))=some (i_ thr)/\w'.cell? ⟨ab,ao+k*48,none⟩=some (i_ s.start)/\w'.cell? (a_ Bx)=some (i_ x.2.start)/\w'.cell? (f_ Bx 42)=some (i_ x.2.status)) k_ k_ (fun _ _ h=>h) ⟨b4,b5,b6,b7,cs,x0,A8⟩ (fun _=>?_);refine aa_ 0 29 ?_;refine aa_ 1 30 ?_;refine aa_ 2 31 ?_;refine aa_ 3 32 ?_;refine aa_ 4 33 ?_;refine aa_ 5 34 ?_;refine aa_ 6 35 ?_;refine aa_ 7 36 ?_;refine aa_ 8 37 ?_;refine ae_ 9 38 ?_;refine ae_ 10 39 ?_;refine ae_ 11 40 ?_;refine ae_ 12 41 ?_;refine ae_ 13 42 ?_;refine ae_ 14 43 ?_;refine ae_ 15 44 ?_;refine ae_ 16 45 ?_;refine ae_ 17 46 ?_;refine ae_ 18 47 ?_;refine ae_ 19 48 ?_;refine aa_ 20 49 ?_;refine wpAnyH_done k_ ?_ _;have HC:=h_ (cnd ts thr s.start x.2=false) (by unfold cnd;simp [hst,hst1])
  gi_wp2
  exact ⟨ei_ (Below.drew (b_)),Below.drew (b_),zj_,Below.drew Af.o⟩
 case done =>
  rintro D ys W hD rfl ⟨A6,hB⟩ hK;have A7:=A1.o;have AB:=hB.size;have b8:=(belc hB o_).trans HB.o.2.2.2.2.1;have A9:=(belf hB (b:=w+4) (o:=0) o_).trans HB.o.2.2.2.2.2;have HW:=q_ (show co_ ts l k thr s.start=-1 from by
   unfold co_
   rw [find_none (fun x hx=>A6 x (by rw [rvTo_take l k k (l_)];exact hx))])
  have Ae:=q_ hB;have HK:=q_ hK;clear A6 hB hK
  gi_wp2
  have Al:(W.setCell (a_ (w+4)) (i_ (-1))).heap[D]?=some (.deferred (some [])):=(Below.heap_setCell _ _ _ D (by show D≠w+4;omega)).trans HK.o;have Ax:Below w w (W.setCell (a_ (w+4)) (i_ (-1))):=(Ai.o.trans (Ae.out.mono o_)).setCell (by show _<=(w:Nat)+4;omega) _;have hc:((W.setCell (a_ (w+4)) (i_ (-1))).putObj D (.deferred none)).cell? (a_ (w+4))=some (i_ (-1)):=(World.cell?_of_block (World.putObj_heap_other (by show w+4≠D;omega))).trans (World.cell?_setCell_same _ _ _ b8);refine ⟨zk_,.inl ⟨_,_,rfl,run_takeDeferred Al,i_ (-1),?_,?_⟩⟩
  ·simp [results,Tryz.results32,go_sem,hc]
  exact ⟨by rw [HW.o],Ax.trans (belowK_b (w:=w) (l_) _ D _ _ o_ Al rfl rfl)⟩
 rintro D e A4 W hD Aa ⟨⟨rfl,x,q,rfl,hq,hx,hc⟩,hB⟩ hK;have HW:=q_ (show co_ ts l k thr s.start=x.1 from by
  obtain ⟨r,hr⟩:=Aa
  unfold co_
  rw [<-rvTo_take l k k (l_),<-hr,List.append_assoc,List.singleton_append,find_at (p:=fun y:Nat × Tk=>cnd ts thr s.start y.2) hx hq])
 have HK:=q_ hK;have Ae:=q_ hB;have A7:=A1.o;clear hq hx Aa hK hB
 gi_wp2
 have hc:(W.putObj D (.deferred none)).cell? (a_ (w+4))=some (i_ x.1):=(World.cell?_of_block (World.putObj_heap_other (by show w+4≠D;omega))).trans hc;refine ⟨zk_,.inl ⟨_,_,rfl,run_takeDeferred HK.o,i_ x.1,?_,?_⟩⟩
 ·simp [results,Tryz.results32,go_sem,hc]
 exact ⟨by rw [HW.o],Ae.out.trans (belowK_b (w:=w) (l_) W D _ _ o_ HK.o rfl rfl)⟩
end Go.Proofs.YtfolidlmgfhkiaaGreat.Dl
